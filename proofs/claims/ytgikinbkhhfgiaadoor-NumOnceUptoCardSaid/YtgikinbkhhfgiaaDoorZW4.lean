/- Walks. -/
import Derived.Test.YtgikinbkhhfgiaaDoorZW2
set_option linter.unusedVariables false
set_option linter.unusedSimpArgs false
namespace Go.Proofs.YtgikinbkhhfgiaaDoor
open Go Go.Vc Go.Proofs
set_option linter.unusedVariables false
set_option linter.unusedSimpArgs false
theorem emod_step (x P : Int) (hP : 0 < P) : x % (P * 256) = (x / P) % 256 * P + x % P := by
  have h1 := Int.emod_add_mul_ediv x P
  have h2 := Int.emod_add_mul_ediv (x / P) 256
  have h3 := Int.emod_nonneg x (Int.ne_of_gt hP)
  have h4 := Int.emod_lt_of_pos x hP
  have h5 := Int.emod_nonneg (x / P) (show (256 : Int) ≠ 0 by decide)
  have h6 := Int.emod_lt_of_pos (x / P) (show (0 : Int) < 256 by decide)
  generalize x % P = r at *
  generalize (x / P) % 256 = b at *
  generalize (x / P) / 256 = m at *
  have e : x = (b * P + r) + (P * 256) * m := by
    rw [← h1, ← h2, Int.mul_add, Int.mul_comm P b, ← Int.mul_assoc]
    omega
  rw [e, Int.add_mul_emod_self_left]
  have h7 : b * P ≤ 255 * P := Int.mul_le_mul_of_nonneg_right (by omega) (by omega)
  have h8 : 0 ≤ b * P := Int.mul_nonneg h5 (by omega)
  exact Int.emod_eq_of_lt (by omega) (by omega)
theorem fold_low (x : Int) : ∀ (k : Nat) (c : Int), foldB c (low x k) = c * 256 ^ k + x % 256 ^ k
  | 0, c => by simp [foldB, low]
  | k + 1, c => by
    have e : foldB c (low x (k + 1)) = foldB (c * 256 + (x / 256 ^ k) % 256) (low x k) := rfl
    rw [e, fold_low x k, Int.pow_succ, emod_step x (256 ^ k) (Int.pow_pos (by decide)), Int.add_mul, Int.mul_comm (256 ^ k) 256, Int.mul_assoc]
    omega
theorem wide_spec (x : Int) (h : fit x 8) : ∃ w, wide x 1 7 = w ∧ 1 ≤ w ∧ w ≤ 8 ∧ fit x w ∧ (w = 1 ∨ ¬ fit x (w - 1)) := by
  simp only [wide]
  simp only [fit] at h ⊢
  repeat' split
  all_goals first
    | exact ⟨1, rfl, by decide, by decide, by simp at *; omega, .inl rfl⟩
    | exact ⟨2, rfl, by decide, by decide, by simp at *; omega, .inr (by simp at *; omega)⟩
    | exact ⟨3, rfl, by decide, by decide, by simp at *; omega, .inr (by simp at *; omega)⟩
    | exact ⟨4, rfl, by decide, by decide, by simp at *; omega, .inr (by simp at *; omega)⟩
    | exact ⟨5, rfl, by decide, by decide, by simp at *; omega, .inr (by simp at *; omega)⟩
    | exact ⟨6, rfl, by decide, by decide, by simp at *; omega, .inr (by simp at *; omega)⟩
    | exact ⟨7, rfl, by decide, by decide, by simp at *; omega, .inr (by simp at *; omega)⟩
    | exact ⟨8, rfl, by decide, by decide, by simp at *; omega, .inr (by simp at *; omega)⟩
theorem val_low (x : Int) (w : Nat) (h1 : 1 ≤ w) (h8 : w ≤ 8) (hf : fit x w) : valD (low x w) = x := by
  have e : ∀ l : List Int, valD l = foldB (if 128 ≤ l.headD 0 then -1 else 0) l := fun _ => rfl
  rw [e, fold_low]
  by_cases hc : 128 ≤ (low x w).headD 0
  · rw [if_pos hc]
    match w, h1, h8 with
    | 1, _, _ | 2, _, _ | 3, _, _ | 4, _, _ | 5, _, _ | 6, _, _ | 7, _, _ | 8, _, _ =>
      simp [low, fit] at hf hc ⊢
      omega
  · rw [if_neg hc]
    match w, h1, h8 with
    | 1, _, _ | 2, _, _ | 3, _, _ | 4, _, _ | 5, _, _ | 6, _, _ | 7, _, _ | 8, _, _ =>
      simp [low, fit] at hf hc ⊢
      omega
theorem short_low (x : Int) (w : Nat) (h1 : 1 ≤ w) (h8 : w ≤ 8) (hf : fit x w) (hn : w = 1 ∨ ¬ fit x (w - 1)) : ShortD (low x w) = true := by
  match w, h1, h8 with
  | 1, _, _ => rfl
  | 2, _, _ | 3, _, _ | 4, _, _ | 5, _, _ | 6, _, _ | 7, _, _ | 8, _, _ =>
    simp only [low, ShortD, fit, Bool.not_eq_true', Bool.or_eq_false_iff, Bool.and_eq_false_iff, decide_eq_false_iff_not] at hf hn ⊢
    simp at *
    omega
theorem int_back {x : Int} (h : InR .i64 x) : ToIntD (IntD x) = (x, 0) := by
  obtain ⟨w, e, h1, h8, hf, hn⟩ := wide_spec x (fit8 h)
  have hl : (low x w).length = w := low_len x w
  rw [IntD, e, ToIntD, if_neg (by rw [short_low x w h1 h8 hf hn]; decide), if_neg (by omega), val_low x w h1 h8 hf]
theorem trim_head {l r : List Int} {a : Int} (h : trimD l = a :: r) : a ≠ 0 := by
  have := List.head_dropWhile_not (fun b : Int => decide (b = 0)) (w := by show trimD l ≠ []; rw [h]; simp)
  intro e
  have h2 : (List.dropWhile (fun b : Int => decide (b = 0)) l).head (by show trimD l ≠ []; rw [h]; simp) = a := by
    have h3 : List.dropWhile (fun b : Int => decide (b = 0)) l = a :: r := h
    simp [h3]
  rw [h2, e] at this
  simp at this
theorem trim_cons {a : Int} (r : List Int) (h : a ≠ 0) : trimD (a :: r) = a :: r := by
  rw [trimD, List.dropWhile_cons, if_neg (by simpa using h)]
theorem nat_back (l : List Int) : ToNatD (NatD l) = (trimD l, 0) := by
  unfold NatD
  cases ht : trimD l with
  | nil => rfl
  | cons a r =>
    have ha := trim_head ht
    by_cases h : 128 ≤ (a :: r).headD 128
    · rw [if_pos h]
      simp only [List.headD_cons] at h
      have hs : ShortD (0 :: a :: r) = true := by simp [ShortD]; omega
      have hz : trimD (0 :: a :: r) = a :: r := by
        have : trimD (0 :: a :: r) = trimD (a :: r) := rfl
        rw [this, trim_cons r ha]
      rw [ToNatD, if_neg (by rw [hs]; decide), if_neg (by simp), hz]
    · rw [if_neg h]
      simp only [List.headD_cons] at h
      have hs : ShortD (a :: r) = true := by
        cases r with
        | nil => rfl
        | cons b r =>
          simp only [ShortD, Bool.not_eq_true', Bool.or_eq_false_iff, Bool.and_eq_false_iff, decide_eq_false_iff_not]
          omega
      rw [ToNatD, if_neg (by rw [hs]; decide), if_neg (by simpa using h), trim_cons r ha]
theorem trim_split (l : List Int) : l = List.takeWhile (fun b : Int => decide (b = 0)) l ++ trimD l := (List.takeWhile_append_dropWhile ..).symm
theorem trim_drop (l : List Int) : l.drop (l.length - (trimD l).length) = trimD l := by
  have h := trim_split l
  have hl := congrArg List.length h
  rw [List.length_append] at hl
  have e : l.length - (trimD l).length = (List.takeWhile (fun b : Int => decide (b = 0)) l).length := by omega
  rw [e]
  conv => lhs; arg 2; rw [h]
  exact List.drop_left
theorem trim_zero (l : List Int) (i : Nat) (hi : i < l.length - (trimD l).length) : l.getD i 0 = 0 := by
  have h := trim_split l
  have hl := congrArg List.length h
  rw [List.length_append] at hl
  have hlt : i < (List.takeWhile (fun b : Int => decide (b = 0)) l).length := by omega
  rw [List.getD_eq_getElem?_getD, h, List.getElem?_append_left hlt, List.getElem?_eq_getElem hlt]
  have := List.all_eq_true.1 (List.all_takeWhile (p := fun b : Int => decide (b = 0)) (l := l)) _ (List.getElem_mem hlt)
  simpa using this
theorem flags1 (x : Nat) (h0 : x ≠ 0) (h : x < 256) : ToFlagsD [8 - (lastb x 8 : Int), (prev x 8 : Int)] = ((x : Int), 0) := by
  have key : ∀ x : Fin 256, x.val ≠ 0 → ToFlagsD [8 - (lastb x.val 8 : Int), (prev x.val 8 : Int)] = ((x.val : Int), 0) := by decide +kernel
  exact key ⟨x, h⟩ h0
theorem prev2 (x : Nat) (h : x < 256) : prev (prev x 8) 8 = x := by
  have key : ∀ x : Fin 256, prev (prev x.val 8) 8 = x.val := by decide +kernel
  exact key ⟨x, h⟩
theorem flags2 (q : Int) (x : Nat) (h0 : x ≠ 0) (h : x < 256) : ToFlagsD [8 - (lastb x 8 : Int), q, (prev x 8 : Int)] = ((prev q.toNat 8 : Int) + 256 * (x : Int), 0) := by
  have key : ∀ x : Fin 256, x.val ≠ 0 → FitsD [(prev x.val 8 : Int)] (8 - (lastb x.val 8 : Int)) = true ∧ ¬ ((prev x.val 8 : Int) / 2 ^ (8 - (lastb x.val 8 : Int)).toNat) % 2 = 0 := by decide +kernel
  obtain ⟨k1, k2⟩ := key ⟨x, h⟩ h0
  simp only at k1 k2
  have hb : ToBitsD [8 - (lastb x 8 : Int), q, (prev x 8 : Int)] = ([q, (prev x 8 : Int)], 8 - (lastb x 8 : Int), 0) := by
    rw [ToBitsD, if_pos]
    have : FitsD [q, (prev x 8 : Int)] (8 - (lastb x 8 : Int)) = FitsD [(prev x 8 : Int)] (8 - (lastb x 8 : Int)) := by simp [FitsD]
    rw [this]; exact k1
  rw [ToFlagsD, hb]
  simp only
  rw [if_neg (by simp), if_neg (fun hc => k2 hc.2), if_neg (by simp), flagsD, Int.toNat_natCast, prev2 x h]
theorem flags_back (f : Int) (h0 : 0 ≤ f) (h1 : f ≤ 65535) : ToFlagsD (FlagsD f.toNat) = (f, 0) := by
  unfold FlagsD
  split
  · rename_i h
    have : f = 0 := by omega
    subst this
    decide
  · rename_i hz
    split
    · rename_i h
      rw [flags1 _ hz h]
      congr 1
      omega
    · rename_i h
      rw [flags2 _ (f.toNat / 256) (by omega) (by omega), Int.toNat_natCast, prev2 _ (by omega)]
      congr 1
      omega
theorem u16_rng {f : Int} (h : Kd.wf (Kd.int .u16) f) : 0 ≤ f ∧ f ≤ 65535 := by
  have h : InR .u16 f := h
  simpa [InR, IntKind.min, IntKind.max, IntKind.signed, IntKind.bits] using h
theorem flags_len (x : Nat) : (FlagsD x).length ≤ 3 := by
  unfold FlagsD
  split
  · simp
  · split <;> simp
theorem bits0 (l : List Int) : BitsD l 0 = (0 :: l, 0) ∧ ToBitsD (0 :: l) = (l, 0, 0) := by
  have : FitsD l 0 = true := by
    unfold FitsD
    rw [if_neg (by omega)]
    split
    · rfl
    · simp [Int.emod_one]
  exact ⟨by rw [BitsD, if_pos this], by rw [ToBitsD, if_pos this]⟩
theorem bool_back (b : Bool) : ToBoolD (BoolD b) = (b, 0) := by cases b <;> decide
def t5 : Prop :=
  ∀ (x : Int × List Int × Int × Unit),
    Kd.wf (Kd.int IntKind.i64) x.fst ∧ Kd.wf (Kd.sl (Kd.int IntKind.u8)) x.snd.fst ∧ Kd.wf (Kd.int IntKind.u16) x.snd.snd.fst ∧ True →
      ABulk [AK.dat (Kd.int IntKind.i64), AK.dat (Kd.sl (Kd.int IntKind.u8)), AK.dat (Kd.int IntKind.u16)] x ≤ (1048576 : Nat) →
        True ∧
          (∀ (y : List Int × Unit),
              Kd.wf (Kd.sl (Kd.int IntKind.u8)) y.fst ∧ True →
                y.fst = IntD x.fst →
                  True ∧
                    (∀ (y_1 : Int × Int × Unit),
                        Kd.wf (Kd.int IntKind.i64) y_1.fst ∧ Kd.wf (Kd.int IntKind.i64) y_1.snd.fst ∧ True →
                          (y_1.fst, y_1.snd.fst) = ToIntD y.fst →
                            (decide (y_1.snd.fst ≠ (0 : Int)) = false → True) ∧
                              (decide (y_1.snd.fst ≠ (0 : Int)) = false → True) ∧
                                (decide (y_1.snd.fst ≠ (0 : Int)) = false → (decide (y_1.snd.fst ≠ (0 : Int)) == false) = true ∧ (decide (y_1.snd.fst ≠ (0 : Int)) == false) = true ∧ True) ∧
                                  (decide (y_1.snd.fst ≠ (0 : Int)) = false → (decide (y_1.snd.fst ≠ (0 : Int)) == false) = true) ∧
                                    ((bif decide (y_1.snd.fst ≠ (0 : Int)) then true else decide (y_1.fst ≠ x.fst)) = true → false = true) ∧
                                      ((bif decide (y_1.snd.fst ≠ (0 : Int)) then true else decide (y_1.fst ≠ x.fst)) = false →
                                        List.length x.snd.fst ≤ (2000000 : Nat) ∧
                                          (∀ (y : List Int × Unit),
                                              Kd.wf (Kd.sl (Kd.int IntKind.u8)) y.fst ∧ True →
                                                y.fst = NatD x.snd.fst →
                                                  List.length y.fst ≤ (2000000 : Nat) ∧
                                                    (∀ (y_2 : List Int × Int × Unit),
                                                        Kd.wf (Kd.sl (Kd.int IntKind.u8)) y_2.fst ∧ Kd.wf (Kd.int IntKind.i64) y_2.snd.fst ∧ True →
                                                          (y_2.fst, y_2.snd.fst) = ToNatD y.fst →
                                                            (decide (y_2.snd.fst ≠ (0 : Int)) = false → True) ∧
                                                              (decide (y_2.snd.fst ≠ (0 : Int)) = false → (decide (y_2.snd.fst ≠ (0 : Int)) == false) = true ∧ True) ∧
                                                                (decide (y_2.snd.fst ≠ (0 : Int)) = false → True) ∧
                                                                  (decide (y_2.snd.fst ≠ (0 : Int)) = false → (decide (y_2.snd.fst ≠ (0 : Int)) == false) = true ∧ True) ∧
                                                                    (decide (y_2.snd.fst ≠ (0 : Int)) = false →
                                                                        (decide (y_2.snd.fst ≠ (0 : Int)) == false) = true ∧ (decide (y_2.snd.fst ≠ (0 : Int)) == false) = true ∧ True) ∧
                                                                      (decide (y_2.snd.fst ≠ (0 : Int)) = false → (decide (y_2.snd.fst ≠ (0 : Int)) == false) = true) ∧
                                                                        ((bif decide (y_2.snd.fst ≠ (0 : Int)) then true
                                                                              else decide ((↑(List.length x.snd.fst) : Int) < (↑(List.length y_2.fst) : Int))) =
                                                                              false →
                                                                            True) ∧
                                                                          ((bif decide (y_2.snd.fst ≠ (0 : Int)) then true
                                                                                else decide ((↑(List.length x.snd.fst) : Int) < (↑(List.length y_2.fst) : Int))) =
                                                                                false →
                                                                              ((bif decide (y_2.snd.fst ≠ (0 : Int)) then true
                                                                                    else decide ((↑(List.length x.snd.fst) : Int) < (↑(List.length y_2.fst) : Int))) ==
                                                                                    false) =
                                                                                  true ∧
                                                                                True) ∧
                                                                            ((bif decide (y_2.snd.fst ≠ (0 : Int)) then true
                                                                                  else decide ((↑(List.length x.snd.fst) : Int) < (↑(List.length y_2.fst) : Int))) =
                                                                                  false →
                                                                                True) ∧
                                                                              ((bif decide (y_2.snd.fst ≠ (0 : Int)) then true
                                                                                    else decide ((↑(List.length x.snd.fst) : Int) < (↑(List.length y_2.fst) : Int))) =
                                                                                    false →
                                                                                  True) ∧
                                                                                ((bif decide (y_2.snd.fst ≠ (0 : Int)) then true
                                                                                      else decide ((↑(List.length x.snd.fst) : Int) < (↑(List.length y_2.fst) : Int))) =
                                                                                      false →
                                                                                    ((bif decide (y_2.snd.fst ≠ (0 : Int)) then true
                                                                                          else decide ((↑(List.length x.snd.fst) : Int) < (↑(List.length y_2.fst) : Int))) ==
                                                                                          false) =
                                                                                        true ∧
                                                                                      True) ∧
                                                                                  ((bif decide (y_2.snd.fst ≠ (0 : Int)) then true
                                                                                        else decide ((↑(List.length x.snd.fst) : Int) < (↑(List.length y_2.fst) : Int))) =
                                                                                        false →
                                                                                      True) ∧
                                                                                    ((bif decide (y_2.snd.fst ≠ (0 : Int)) then true
                                                                                          else decide ((↑(List.length x.snd.fst) : Int) < (↑(List.length y_2.fst) : Int))) =
                                                                                          false →
                                                                                        ((bif decide (y_2.snd.fst ≠ (0 : Int)) then true
                                                                                              else decide ((↑(List.length x.snd.fst) : Int) < (↑(List.length y_2.fst) : Int))) ==
                                                                                              false) =
                                                                                            true ∧
                                                                                          True) ∧
                                                                                      ((bif decide (y_2.snd.fst ≠ (0 : Int)) then true
                                                                                            else decide ((↑(List.length x.snd.fst) : Int) < (↑(List.length y_2.fst) : Int))) =
                                                                                            false →
                                                                                          ((bif decide (y_2.snd.fst ≠ (0 : Int)) then true
                                                                                                else decide ((↑(List.length x.snd.fst) : Int) < (↑(List.length y_2.fst) : Int))) ==
                                                                                                false) =
                                                                                              true ∧
                                                                                            ((bif decide (y_2.snd.fst ≠ (0 : Int)) then true
                                                                                                  else decide ((↑(List.length x.snd.fst) : Int) < (↑(List.length y_2.fst) : Int))) ==
                                                                                                  false) =
                                                                                                true ∧
                                                                                              True) ∧
                                                                                        ((bif decide (y_2.snd.fst ≠ (0 : Int)) then true
                                                                                              else decide ((↑(List.length x.snd.fst) : Int) < (↑(List.length y_2.fst) : Int))) =
                                                                                              false →
                                                                                            ((bif decide (y_2.snd.fst ≠ (0 : Int)) then true
                                                                                                  else decide ((↑(List.length x.snd.fst) : Int) < (↑(List.length y_2.fst) : Int))) ==
                                                                                                  false) =
                                                                                                true ∧
                                                                                              ((bif decide (y_2.snd.fst ≠ (0 : Int)) then true
                                                                                                    else decide ((↑(List.length x.snd.fst) : Int) < (↑(List.length y_2.fst) : Int))) ==
                                                                                                    false) =
                                                                                                  true ∧
                                                                                                ((0 : Int) ≤
                                                                                                      IntKind.wrap IntKind.i64 ((↑(List.length x.snd.fst) : Int) - (↑(List.length y_2.fst) : Int)) ∧
                                                                                                    IntKind.wrap IntKind.i64 ((↑(List.length x.snd.fst) : Int) - (↑(List.length y_2.fst) : Int)) ≤
                                                                                                      (↑(List.length x.snd.fst) : Int)) ∧
                                                                                                  True) ∧
                                                                                          ((bif decide (y_2.snd.fst ≠ (0 : Int)) then true
                                                                                                else decide ((↑(List.length x.snd.fst) : Int) < (↑(List.length y_2.fst) : Int))) =
                                                                                                false →
                                                                                              ((bif decide (y_2.snd.fst ≠ (0 : Int)) then true
                                                                                                    else decide ((↑(List.length x.snd.fst) : Int) < (↑(List.length y_2.fst) : Int))) ==
                                                                                                    false) =
                                                                                                  true ∧
                                                                                                True) ∧
                                                                                            ((bif decide (y_2.snd.fst ≠ (0 : Int)) then true
                                                                                                  else decide ((↑(List.length x.snd.fst) : Int) < (↑(List.length y_2.fst) : Int))) =
                                                                                                  false →
                                                                                                ((bif decide (y_2.snd.fst ≠ (0 : Int)) then true
                                                                                                      else decide ((↑(List.length x.snd.fst) : Int) < (↑(List.length y_2.fst) : Int))) ==
                                                                                                      false) =
                                                                                                    true ∧
                                                                                                  ((bif decide (y_2.snd.fst ≠ (0 : Int)) then true
                                                                                                        else decide ((↑(List.length x.snd.fst) : Int) < (↑(List.length y_2.fst) : Int))) ==
                                                                                                        false) =
                                                                                                      true ∧
                                                                                                    True) ∧
                                                                                              ((bif decide (y_2.snd.fst ≠ (0 : Int)) then true
                                                                                                    else decide ((↑(List.length x.snd.fst) : Int) < (↑(List.length y_2.fst) : Int))) =
                                                                                                    false →
                                                                                                  ((bif decide (y_2.snd.fst ≠ (0 : Int)) then true
                                                                                                      else decide ((↑(List.length x.snd.fst) : Int) < (↑(List.length y_2.fst) : Int))) ==
                                                                                                      false) =
                                                                                                    true) ∧
                                                                                                ((bif
                                                                                                          bif decide (y_2.snd.fst ≠ (0 : Int)) then true
                                                                                                          else decide ((↑(List.length x.snd.fst) : Int) < (↑(List.length y_2.fst) : Int)) then
                                                                                                        true
                                                                                                      else
                                                                                                        decide
                                                                                                          (y_2.fst ≠
                                                                                                            List.drop
                                                                                                              (Int.toNat
                                                                                                                (IntKind.wrap IntKind.i64
                                                                                                                  ((↑(List.length x.snd.fst) : Int) - (↑(List.length y_2.fst) : Int))))
                                                                                                              x.snd.fst)) =
                                                                                                      true →
                                                                                                    false = true) ∧
                                                                                                  ((bif
                                                                                                          bif decide (y_2.snd.fst ≠ (0 : Int)) then true
                                                                                                          else decide ((↑(List.length x.snd.fst) : Int) < (↑(List.length y_2.fst) : Int)) then
                                                                                                        true
                                                                                                      else
                                                                                                        decide
                                                                                                          (y_2.fst ≠
                                                                                                            List.drop
                                                                                                              (Int.toNat
                                                                                                                (IntKind.wrap IntKind.i64
                                                                                                                  ((↑(List.length x.snd.fst) : Int) - (↑(List.length y_2.fst) : Int))))
                                                                                                              x.snd.fst)) =
                                                                                                      false →
                                                                                                    ∃ (I : Int × Bool × Unit → Unit → Prop),
                                                                                                      ∃ (μ : Int × Bool × Unit → Unit → Nat),
                                                                                                        (Value.bool false = Value.bool false ∧
                                                                                                            y_2.snd.fst = y_2.snd.fst ∧
                                                                                                              Value.bool false = Value.bool false ∧
                                                                                                                y_1.fst = y_1.fst ∧
                                                                                                                  x.fst = x.fst ∧
                                                                                                                    x.snd.fst = x.snd.fst ∧
                                                                                                                      x.snd.snd.fst = x.snd.snd.fst ∧ y_2.fst = y_2.fst ∧ I ((0 : Int), false, ()) ()) ∧
                                                                                                          ∀ (y : Int × Bool × Unit) (z : Unit),
                                                                                                            Kd.wf (Kd.int IntKind.i64) y.fst ∧ Kd.wf Kd.bool y.snd.fst ∧ True →
                                                                                                              True →
                                                                                                                I y z →
                                                                                                                  (decide
                                                                                                                          (y.fst <
                                                                                                                            IntKind.wrap IntKind.i64
                                                                                                                              ((↑(List.length x.snd.fst) : Int) - (↑(List.length y_2.fst) : Int))) =
                                                                                                                        true →
                                                                                                                      ((0 : Int) ≤ y.fst ∧ y.fst < (↑(List.length x.snd.fst) : Int)) ∧
                                                                                                                        (decide
                                                                                                                                (List.getD x.snd.fst (Int.toNat y.fst) (Kd.dft (Kd.int IntKind.u8)) ≠
                                                                                                                                  (0 : Int)) =
                                                                                                                              true →
                                                                                                                            false = true) ∧
                                                                                                                          (decide
                                                                                                                                (List.getD x.snd.fst (Int.toNat y.fst) (Kd.dft (Kd.int IntKind.u8)) ≠
                                                                                                                                  (0 : Int)) =
                                                                                                                              false →
                                                                                                                            Value.bool false = Value.bool false ∧
                                                                                                                              y_2.snd.fst = y_2.snd.fst ∧
                                                                                                                                Value.bool false = Value.bool false ∧
                                                                                                                                  y_1.fst = y_1.fst ∧
                                                                                                                                    x.fst = x.fst ∧
                                                                                                                                      x.snd.fst = x.snd.fst ∧
                                                                                                                                        x.snd.snd.fst = x.snd.snd.fst ∧
                                                                                                                                          y_2.fst = y_2.fst ∧
                                                                                                                                            I
                                                                                                                                                (IntKind.wrap IntKind.i64 (y.fst + (1 : Int)), y.snd.fst,
                                                                                                                                                  ())
                                                                                                                                                () ∧
                                                                                                                                              μ
                                                                                                                                                  (IntKind.wrap IntKind.i64 (y.fst + (1 : Int)),
                                                                                                                                                    y.snd.fst, ())
                                                                                                                                                  () <
                                                                                                                                                μ y z)) ∧
                                                                                                                    (decide
                                                                                                                          (y.fst <
                                                                                                                            IntKind.wrap IntKind.i64
                                                                                                                              ((↑(List.length x.snd.fst) : Int) - (↑(List.length y_2.fst) : Int))) =
                                                                                                                        false →
                                                                                                                      True ∧
                                                                                                                        (∀ (y : List Int × Unit),
                                                                                                                            Kd.wf (Kd.sl (Kd.int IntKind.u8)) y.fst ∧ True →
                                                                                                                              y.fst = FlagsD (Int.toNat x.snd.snd.fst) →
                                                                                                                                List.length y.fst ≤ (2000000 : Nat) ∧
                                                                                                                                  (∀ (y_3 : Int × Int × Unit),
                                                                                                                                      Kd.wf (Kd.int IntKind.u16) y_3.fst ∧
                                                                                                                                          Kd.wf (Kd.int IntKind.i64) y_3.snd.fst ∧ True →
                                                                                                                                        (y_3.fst, y_3.snd.fst) = ToFlagsD y.fst →
                                                                                                                                          (decide (y_3.snd.fst ≠ (0 : Int)) = false → True) ∧
                                                                                                                                            (decide (y_3.snd.fst ≠ (0 : Int)) = false → True) ∧
                                                                                                                                              (decide (y_3.snd.fst ≠ (0 : Int)) = false →
                                                                                                                                                  (decide (y_3.snd.fst ≠ (0 : Int)) == false) = true ∧
                                                                                                                                                    (decide (y_3.snd.fst ≠ (0 : Int)) == false) = true ∧
                                                                                                                                                      True) ∧
                                                                                                                                                (decide (y_3.snd.fst ≠ (0 : Int)) = false →
                                                                                                                                                    (decide (y_3.snd.fst ≠ (0 : Int)) == false) = true) ∧
                                                                                                                                                  ((bif decide (y_3.snd.fst ≠ (0 : Int)) then true
                                                                                                                                                        else decide (y_3.fst ≠ x.snd.snd.fst)) =
                                                                                                                                                        true →
                                                                                                                                                      false = true) ∧
                                                                                                                                                    ((bif decide (y_3.snd.fst ≠ (0 : Int)) then true
                                                                                                                                                        else decide (y_3.fst ≠ x.snd.snd.fst)) =
                                                                                                                                                        false →
                                                                                                                                                      List.length x.snd.fst ≤ (1048576 : Nat) ∧
                                                                                                                                                        (∀ (y : List Int × Int × Unit),
                                                                                                                                                            Kd.wf (Kd.sl (Kd.int IntKind.u8)) y.fst ∧
                                                                                                                                                                Kd.wf (Kd.int IntKind.i64) y.snd.fst ∧
                                                                                                                                                                  True →
                                                                                                                                                              (y.fst, y.snd.fst) =
                                                                                                                                                                  BitsD x.snd.fst (0 : Int) →
                                                                                                                                                                List.length y.fst ≤ (2000000 : Nat) ∧
                                                                                                                                                                  (∀ (y_4 : List Int × Int × Int × Unit),
                                                                                                                                                                      Kd.wf (Kd.sl (Kd.int IntKind.u8))
                                                                                                                                                                            y_4.fst ∧
                                                                                                                                                                          Kd.wf (Kd.int IntKind.i64)
                                                                                                                                                                              y_4.snd.fst ∧
                                                                                                                                                                            Kd.wf (Kd.int IntKind.i64)
                                                                                                                                                                                y_4.snd.snd.fst ∧
                                                                                                                                                                              True →
                                                                                                                                                                        (y_4.fst, y_4.snd.fst,
                                                                                                                                                                              y_4.snd.snd.fst) =
                                                                                                                                                                            ToBitsD y.fst →
                                                                                                                                                                          True ∧
                                                                                                                                                                            (∀ (y_5 : List Int × Unit),
                                                                                                                                                                                Kd.wf
                                                                                                                                                                                      (Kd.sl
                                                                                                                                                                                        (Kd.int
                                                                                                                                                                                          IntKind.u8))
                                                                                                                                                                                      y_5.fst ∧
                                                                                                                                                                                    True →
                                                                                                                                                                                  y_5.fst =
                                                                                                                                                                                      BoolD
                                                                                                                                                                                        (decide
                                                                                                                                                                                          ((0 : Int) <
                                                                                                                                                                                            x.fst)) →
                                                                                                                                                                                    True ∧
                                                                                                                                                                                      (∀
                                                                                                                                                                                          (y_6 :
                                                                                                                                                                                            Bool ×
                                                                                                                                                                                              Int ×
                                                                                                                                                                                                Unit),
                                                                                                                                                                                          Kd.wf Kd.bool
                                                                                                                                                                                                y_6.fst ∧
                                                                                                                                                                                              Kd.wf
                                                                                                                                                                                                  (Kd.int
                                                                                                                                                                                                    IntKind.i64)
                                                                                                                                                                                                  y_6.snd.fst ∧
                                                                                                                                                                                                True →
                                                                                                                                                                                            (y_6.fst,
                                                                                                                                                                                                  y_6.snd.fst) =
                                                                                                                                                                                                ToBoolD
                                                                                                                                                                                                  y_5.fst →
                                                                                                                                                                                              (decide
                                                                                                                                                                                                      (y.snd.fst =
                                                                                                                                                                                                        (0 :
                                                                                                                                                                                                          Int)) =
                                                                                                                                                                                                    true →
                                                                                                                                                                                                  True) ∧
                                                                                                                                                                                                (decide
                                                                                                                                                                                                        (y.snd.fst =
                                                                                                                                                                                                          (0 :
                                                                                                                                                                                                            Int)) =
                                                                                                                                                                                                      true →
                                                                                                                                                                                                    (decide
                                                                                                                                                                                                            (y.snd.fst =
                                                                                                                                                                                                              (0 :
                                                                                                                                                                                                                Int)) ==
                                                                                                                                                                                                          true) =
                                                                                                                                                                                                        true ∧
                                                                                                                                                                                                      True) ∧
                                                                                                                                                                                                  (decide
                                                                                                                                                                                                          (y.snd.fst =
                                                                                                                                                                                                            (0 :
                                                                                                                                                                                                              Int)) =
                                                                                                                                                                                                        true →
                                                                                                                                                                                                      (decide
                                                                                                                                                                                                            (y.snd.fst =
                                                                                                                                                                                                              (0 :
                                                                                                                                                                                                                Int)) ==
                                                                                                                                                                                                          true) =
                                                                                                                                                                                                        true) ∧
                                                                                                                                                                                                    ((bif
                                                                                                                                                                                                              decide
                                                                                                                                                                                                                (y.snd.fst =
                                                                                                                                                                                                                  (0 :
                                                                                                                                                                                                                    Int)) then
                                                                                                                                                                                                            decide
                                                                                                                                                                                                              (y_4.snd.snd.fst =
                                                                                                                                                                                                                (0 :
                                                                                                                                                                                                                  Int))
                                                                                                                                                                                                          else
                                                                                                                                                                                                            false) =
                                                                                                                                                                                                          true →
                                                                                                                                                                                                        True) ∧
                                                                                                                                                                                                      ((bif
                                                                                                                                                                                                                decide
                                                                                                                                                                                                                  (y.snd.fst =
                                                                                                                                                                                                                    (0 :
                                                                                                                                                                                                                      Int)) then
                                                                                                                                                                                                              decide
                                                                                                                                                                                                                (y_4.snd.snd.fst =
                                                                                                                                                                                                                  (0 :
                                                                                                                                                                                                                    Int))
                                                                                                                                                                                                            else
                                                                                                                                                                                                              false) =
                                                                                                                                                                                                            true →
                                                                                                                                                                                                          ((bif
                                                                                                                                                                                                                    decide
                                                                                                                                                                                                                      (y.snd.fst =
                                                                                                                                                                                                                        (0 :
                                                                                                                                                                                                                          Int)) then
                                                                                                                                                                                                                  decide
                                                                                                                                                                                                                    (y_4.snd.snd.fst =
                                                                                                                                                                                                                      (0 :
                                                                                                                                                                                                                        Int))
                                                                                                                                                                                                                else
                                                                                                                                                                                                                  false) ==
                                                                                                                                                                                                                true) =
                                                                                                                                                                                                              true ∧
                                                                                                                                                                                                            True) ∧
                                                                                                                                                                                                        ((bif
                                                                                                                                                                                                                  decide
                                                                                                                                                                                                                    (y.snd.fst =
                                                                                                                                                                                                                      (0 :
                                                                                                                                                                                                                        Int)) then
                                                                                                                                                                                                                decide
                                                                                                                                                                                                                  (y_4.snd.snd.fst =
                                                                                                                                                                                                                    (0 :
                                                                                                                                                                                                                      Int))
                                                                                                                                                                                                              else
                                                                                                                                                                                                                false) =
                                                                                                                                                                                                              true →
                                                                                                                                                                                                            ((bif
                                                                                                                                                                                                                    decide
                                                                                                                                                                                                                      (y.snd.fst =
                                                                                                                                                                                                                        (0 :
                                                                                                                                                                                                                          Int)) then
                                                                                                                                                                                                                  decide
                                                                                                                                                                                                                    (y_4.snd.snd.fst =
                                                                                                                                                                                                                      (0 :
                                                                                                                                                                                                                        Int))
                                                                                                                                                                                                                else
                                                                                                                                                                                                                  false) ==
                                                                                                                                                                                                                true) =
                                                                                                                                                                                                              true) ∧
                                                                                                                                                                                                          ((bif
                                                                                                                                                                                                                    bif
                                                                                                                                                                                                                        decide
                                                                                                                                                                                                                          (y.snd.fst =
                                                                                                                                                                                                                            (0 :
                                                                                                                                                                                                                              Int)) then
                                                                                                                                                                                                                      decide
                                                                                                                                                                                                                        (y_4.snd.snd.fst =
                                                                                                                                                                                                                          (0 :
                                                                                                                                                                                                                            Int))
                                                                                                                                                                                                                    else
                                                                                                                                                                                                                      false then
                                                                                                                                                                                                                  decide
                                                                                                                                                                                                                    (y_6.snd.fst =
                                                                                                                                                                                                                      (0 :
                                                                                                                                                                                                                        Int))
                                                                                                                                                                                                                else
                                                                                                                                                                                                                  false) =
                                                                                                                                                                                                                true →
                                                                                                                                                                                                              True) ∧
                                                                                                                                                                                                            ((bif
                                                                                                                                                                                                                      bif
                                                                                                                                                                                                                          decide
                                                                                                                                                                                                                            (y.snd.fst =
                                                                                                                                                                                                                              (0 :
                                                                                                                                                                                                                                Int)) then
                                                                                                                                                                                                                        decide
                                                                                                                                                                                                                          (y_4.snd.snd.fst =
                                                                                                                                                                                                                            (0 :
                                                                                                                                                                                                                              Int))
                                                                                                                                                                                                                      else
                                                                                                                                                                                                                        false then
                                                                                                                                                                                                                    decide
                                                                                                                                                                                                                      (y_6.snd.fst =
                                                                                                                                                                                                                        (0 :
                                                                                                                                                                                                                          Int))
                                                                                                                                                                                                                  else
                                                                                                                                                                                                                    false) =
                                                                                                                                                                                                                  true →
                                                                                                                                                                                                                ((bif
                                                                                                                                                                                                                          bif
                                                                                                                                                                                                                              decide
                                                                                                                                                                                                                                (y.snd.fst =
                                                                                                                                                                                                                                  (0 :
                                                                                                                                                                                                                                    Int)) then
                                                                                                                                                                                                                            decide
                                                                                                                                                                                                                              (y_4.snd.snd.fst =
                                                                                                                                                                                                                                (0 :
                                                                                                                                                                                                                                  Int))
                                                                                                                                                                                                                          else
                                                                                                                                                                                                                            false then
                                                                                                                                                                                                                        decide
                                                                                                                                                                                                                          (y_6.snd.fst =
                                                                                                                                                                                                                            (0 :
                                                                                                                                                                                                                              Int))
                                                                                                                                                                                                                      else
                                                                                                                                                                                                                        false) ==
                                                                                                                                                                                                                      true) =
                                                                                                                                                                                                                    true ∧
                                                                                                                                                                                                                  True) ∧
                                                                                                                                                                                                              ((bif
                                                                                                                                                                                                                        bif
                                                                                                                                                                                                                            decide
                                                                                                                                                                                                                              (y.snd.fst =
                                                                                                                                                                                                                                (0 :
                                                                                                                                                                                                                                  Int)) then
                                                                                                                                                                                                                          decide
                                                                                                                                                                                                                            (y_4.snd.snd.fst =
                                                                                                                                                                                                                              (0 :
                                                                                                                                                                                                                                Int))
                                                                                                                                                                                                                        else
                                                                                                                                                                                                                          false then
                                                                                                                                                                                                                      decide
                                                                                                                                                                                                                        (y_6.snd.fst =
                                                                                                                                                                                                                          (0 :
                                                                                                                                                                                                                            Int))
                                                                                                                                                                                                                    else
                                                                                                                                                                                                                      false) =
                                                                                                                                                                                                                    true →
                                                                                                                                                                                                                  ((bif
                                                                                                                                                                                                                          bif
                                                                                                                                                                                                                              decide
                                                                                                                                                                                                                                (y.snd.fst =
                                                                                                                                                                                                                                  (0 :
                                                                                                                                                                                                                                    Int)) then
                                                                                                                                                                                                                            decide
                                                                                                                                                                                                                              (y_4.snd.snd.fst =
                                                                                                                                                                                                                                (0 :
                                                                                                                                                                                                                                  Int))
                                                                                                                                                                                                                          else
                                                                                                                                                                                                                            false then
                                                                                                                                                                                                                        decide
                                                                                                                                                                                                                          (y_6.snd.fst =
                                                                                                                                                                                                                            (0 :
                                                                                                                                                                                                                              Int))
                                                                                                                                                                                                                      else
                                                                                                                                                                                                                        false) ==
                                                                                                                                                                                                                      true) =
                                                                                                                                                                                                                    true) ∧
                                                                                                                                                                                                                ((bif
                                                                                                                                                                                                                          bif
                                                                                                                                                                                                                              bif
                                                                                                                                                                                                                                  decide
                                                                                                                                                                                                                                    (y.snd.fst =
                                                                                                                                                                                                                                      (0 :
                                                                                                                                                                                                                                        Int)) then
                                                                                                                                                                                                                                decide
                                                                                                                                                                                                                                  (y_4.snd.snd.fst =
                                                                                                                                                                                                                                    (0 :
                                                                                                                                                                                                                                      Int))
                                                                                                                                                                                                                              else
                                                                                                                                                                                                                                false then
                                                                                                                                                                                                                            decide
                                                                                                                                                                                                                              (y_6.snd.fst =
                                                                                                                                                                                                                                (0 :
                                                                                                                                                                                                                                  Int))
                                                                                                                                                                                                                          else
                                                                                                                                                                                                                            false then
                                                                                                                                                                                                                        decide
                                                                                                                                                                                                                          (y_4.snd.fst =
                                                                                                                                                                                                                            (0 :
                                                                                                                                                                                                                              Int))
                                                                                                                                                                                                                      else
                                                                                                                                                                                                                        false) =
                                                                                                                                                                                                                      true →
                                                                                                                                                                                                                    True) ∧
                                                                                                                                                                                                                  ((bif
                                                                                                                                                                                                                            bif
                                                                                                                                                                                                                                bif
                                                                                                                                                                                                                                    decide
                                                                                                                                                                                                                                      (y.snd.fst =
                                                                                                                                                                                                                                        (0 :
                                                                                                                                                                                                                                          Int)) then
                                                                                                                                                                                                                                  decide
                                                                                                                                                                                                                                    (y_4.snd.snd.fst =
                                                                                                                                                                                                                                      (0 :
                                                                                                                                                                                                                                        Int))
                                                                                                                                                                                                                                else
                                                                                                                                                                                                                                  false then
                                                                                                                                                                                                                              decide
                                                                                                                                                                                                                                (y_6.snd.fst =
                                                                                                                                                                                                                                  (0 :
                                                                                                                                                                                                                                    Int))
                                                                                                                                                                                                                            else
                                                                                                                                                                                                                              false then
                                                                                                                                                                                                                          decide
                                                                                                                                                                                                                            (y_4.snd.fst =
                                                                                                                                                                                                                              (0 :
                                                                                                                                                                                                                                Int))
                                                                                                                                                                                                                        else
                                                                                                                                                                                                                          false) =
                                                                                                                                                                                                                        true →
                                                                                                                                                                                                                      ((bif
                                                                                                                                                                                                                                bif
                                                                                                                                                                                                                                    bif
                                                                                                                                                                                                                                        decide
                                                                                                                                                                                                                                          (y.snd.fst =
                                                                                                                                                                                                                                            (0 :
                                                                                                                                                                                                                                              Int)) then
                                                                                                                                                                                                                                      decide
                                                                                                                                                                                                                                        (y_4.snd.snd.fst =
                                                                                                                                                                                                                                          (0 :
                                                                                                                                                                                                                                            Int))
                                                                                                                                                                                                                                    else
                                                                                                                                                                                                                                      false then
                                                                                                                                                                                                                                  decide
                                                                                                                                                                                                                                    (y_6.snd.fst =
                                                                                                                                                                                                                                      (0 :
                                                                                                                                                                                                                                        Int))
                                                                                                                                                                                                                                else
                                                                                                                                                                                                                                  false then
                                                                                                                                                                                                                              decide
                                                                                                                                                                                                                                (y_4.snd.fst =
                                                                                                                                                                                                                                  (0 :
                                                                                                                                                                                                                                    Int))
                                                                                                                                                                                                                            else
                                                                                                                                                                                                                              false) ==
                                                                                                                                                                                                                            true) =
                                                                                                                                                                                                                          true ∧
                                                                                                                                                                                                                        True) ∧
                                                                                                                                                                                                                    ((bif
                                                                                                                                                                                                                              bif
                                                                                                                                                                                                                                  bif
                                                                                                                                                                                                                                      decide
                                                                                                                                                                                                                                        (y.snd.fst =
                                                                                                                                                                                                                                          (0 :
                                                                                                                                                                                                                                            Int)) then
                                                                                                                                                                                                                                    decide
                                                                                                                                                                                                                                      (y_4.snd.snd.fst =
                                                                                                                                                                                                                                        (0 :
                                                                                                                                                                                                                                          Int))
                                                                                                                                                                                                                                  else
                                                                                                                                                                                                                                    false then
                                                                                                                                                                                                                                decide
                                                                                                                                                                                                                                  (y_6.snd.fst =
                                                                                                                                                                                                                                    (0 :
                                                                                                                                                                                                                                      Int))
                                                                                                                                                                                                                              else
                                                                                                                                                                                                                                false then
                                                                                                                                                                                                                            decide
                                                                                                                                                                                                                              (y_4.snd.fst =
                                                                                                                                                                                                                                (0 :
                                                                                                                                                                                                                                  Int))
                                                                                                                                                                                                                          else
                                                                                                                                                                                                                            false) =
                                                                                                                                                                                                                          true →
                                                                                                                                                                                                                        True) ∧
                                                                                                                                                                                                                      ((bif
                                                                                                                                                                                                                                bif
                                                                                                                                                                                                                                    bif
                                                                                                                                                                                                                                        decide
                                                                                                                                                                                                                                          (y.snd.fst =
                                                                                                                                                                                                                                            (0 :
                                                                                                                                                                                                                                              Int)) then
                                                                                                                                                                                                                                      decide
                                                                                                                                                                                                                                        (y_4.snd.snd.fst =
                                                                                                                                                                                                                                          (0 :
                                                                                                                                                                                                                                            Int))
                                                                                                                                                                                                                                    else
                                                                                                                                                                                                                                      false then
                                                                                                                                                                                                                                  decide
                                                                                                                                                                                                                                    (y_6.snd.fst =
                                                                                                                                                                                                                                      (0 :
                                                                                                                                                                                                                                        Int))
                                                                                                                                                                                                                                else
                                                                                                                                                                                                                                  false then
                                                                                                                                                                                                                              decide
                                                                                                                                                                                                                                (y_4.snd.fst =
                                                                                                                                                                                                                                  (0 :
                                                                                                                                                                                                                                    Int))
                                                                                                                                                                                                                            else
                                                                                                                                                                                                                              false) =
                                                                                                                                                                                                                            true →
                                                                                                                                                                                                                          ((bif
                                                                                                                                                                                                                                    bif
                                                                                                                                                                                                                                        bif
                                                                                                                                                                                                                                            decide
                                                                                                                                                                                                                                              (y.snd.fst =
                                                                                                                                                                                                                                                (0 :
                                                                                                                                                                                                                                                  Int)) then
                                                                                                                                                                                                                                          decide
                                                                                                                                                                                                                                            (y_4.snd.snd.fst =
                                                                                                                                                                                                                                              (0 :
                                                                                                                                                                                                                                                Int))
                                                                                                                                                                                                                                        else
                                                                                                                                                                                                                                          false then
                                                                                                                                                                                                                                      decide
                                                                                                                                                                                                                                        (y_6.snd.fst =
                                                                                                                                                                                                                                          (0 :
                                                                                                                                                                                                                                            Int))
                                                                                                                                                                                                                                    else
                                                                                                                                                                                                                                      false then
                                                                                                                                                                                                                                  decide
                                                                                                                                                                                                                                    (y_4.snd.fst =
                                                                                                                                                                                                                                      (0 :
                                                                                                                                                                                                                                        Int))
                                                                                                                                                                                                                                else
                                                                                                                                                                                                                                  false) ==
                                                                                                                                                                                                                                true) =
                                                                                                                                                                                                                              true ∧
                                                                                                                                                                                                                            True) ∧
                                                                                                                                                                                                                        ((bif
                                                                                                                                                                                                                                  bif
                                                                                                                                                                                                                                      bif
                                                                                                                                                                                                                                          decide
                                                                                                                                                                                                                                            (y.snd.fst =
                                                                                                                                                                                                                                              (0 :
                                                                                                                                                                                                                                                Int)) then
                                                                                                                                                                                                                                        decide
                                                                                                                                                                                                                                          (y_4.snd.snd.fst =
                                                                                                                                                                                                                                            (0 :
                                                                                                                                                                                                                                              Int))
                                                                                                                                                                                                                                      else
                                                                                                                                                                                                                                        false then
                                                                                                                                                                                                                                    decide
                                                                                                                                                                                                                                      (y_6.snd.fst =
                                                                                                                                                                                                                                        (0 :
                                                                                                                                                                                                                                          Int))
                                                                                                                                                                                                                                  else
                                                                                                                                                                                                                                    false then
                                                                                                                                                                                                                                decide
                                                                                                                                                                                                                                  (y_4.snd.fst =
                                                                                                                                                                                                                                    (0 :
                                                                                                                                                                                                                                      Int))
                                                                                                                                                                                                                              else
                                                                                                                                                                                                                                false) =
                                                                                                                                                                                                                              true →
                                                                                                                                                                                                                            ((bif
                                                                                                                                                                                                                                      bif
                                                                                                                                                                                                                                          bif
                                                                                                                                                                                                                                              decide
                                                                                                                                                                                                                                                (y.snd.fst =
                                                                                                                                                                                                                                                  (0 :
                                                                                                                                                                                                                                                    Int)) then
                                                                                                                                                                                                                                            decide
                                                                                                                                                                                                                                              (y_4.snd.snd.fst =
                                                                                                                                                                                                                                                (0 :
                                                                                                                                                                                                                                                  Int))
                                                                                                                                                                                                                                          else
                                                                                                                                                                                                                                            false then
                                                                                                                                                                                                                                        decide
                                                                                                                                                                                                                                          (y_6.snd.fst =
                                                                                                                                                                                                                                            (0 :
                                                                                                                                                                                                                                              Int))
                                                                                                                                                                                                                                      else
                                                                                                                                                                                                                                        false then
                                                                                                                                                                                                                                    decide
                                                                                                                                                                                                                                      (y_4.snd.fst =
                                                                                                                                                                                                                                        (0 :
                                                                                                                                                                                                                                          Int))
                                                                                                                                                                                                                                  else
                                                                                                                                                                                                                                    false) ==
                                                                                                                                                                                                                                  true) =
                                                                                                                                                                                                                                true ∧
                                                                                                                                                                                                                              ((bif
                                                                                                                                                                                                                                        bif
                                                                                                                                                                                                                                            bif
                                                                                                                                                                                                                                                decide
                                                                                                                                                                                                                                                  (y.snd.fst =
                                                                                                                                                                                                                                                    (0 :
                                                                                                                                                                                                                                                      Int)) then
                                                                                                                                                                                                                                              decide
                                                                                                                                                                                                                                                (y_4.snd.snd.fst =
                                                                                                                                                                                                                                                  (0 :
                                                                                                                                                                                                                                                    Int))
                                                                                                                                                                                                                                            else
                                                                                                                                                                                                                                              false then
                                                                                                                                                                                                                                          decide
                                                                                                                                                                                                                                            (y_6.snd.fst =
                                                                                                                                                                                                                                              (0 :
                                                                                                                                                                                                                                                Int))
                                                                                                                                                                                                                                        else
                                                                                                                                                                                                                                          false then
                                                                                                                                                                                                                                      decide
                                                                                                                                                                                                                                        (y_4.snd.fst =
                                                                                                                                                                                                                                          (0 :
                                                                                                                                                                                                                                            Int))
                                                                                                                                                                                                                                    else
                                                                                                                                                                                                                                      false) ==
                                                                                                                                                                                                                                    true) =
                                                                                                                                                                                                                                  true ∧
                                                                                                                                                                                                                                True) ∧
                                                                                                                                                                                                                          ((bif
                                                                                                                                                                                                                                    bif
                                                                                                                                                                                                                                        bif
                                                                                                                                                                                                                                            decide
                                                                                                                                                                                                                                              (y.snd.fst =
                                                                                                                                                                                                                                                (0 :
                                                                                                                                                                                                                                                  Int)) then
                                                                                                                                                                                                                                          decide
                                                                                                                                                                                                                                            (y_4.snd.snd.fst =
                                                                                                                                                                                                                                              (0 :
                                                                                                                                                                                                                                                Int))
                                                                                                                                                                                                                                        else
                                                                                                                                                                                                                                          false then
                                                                                                                                                                                                                                      decide
                                                                                                                                                                                                                                        (y_6.snd.fst =
                                                                                                                                                                                                                                          (0 :
                                                                                                                                                                                                                                            Int))
                                                                                                                                                                                                                                    else
                                                                                                                                                                                                                                      false then
                                                                                                                                                                                                                                  decide
                                                                                                                                                                                                                                    (y_4.snd.fst =
                                                                                                                                                                                                                                      (0 :
                                                                                                                                                                                                                                        Int))
                                                                                                                                                                                                                                else
                                                                                                                                                                                                                                  false) =
                                                                                                                                                                                                                                true →
                                                                                                                                                                                                                              ((bif
                                                                                                                                                                                                                                      bif
                                                                                                                                                                                                                                          bif
                                                                                                                                                                                                                                              decide
                                                                                                                                                                                                                                                (y.snd.fst =
                                                                                                                                                                                                                                                  (0 :
                                                                                                                                                                                                                                                    Int)) then
                                                                                                                                                                                                                                            decide
                                                                                                                                                                                                                                              (y_4.snd.snd.fst =
                                                                                                                                                                                                                                                (0 :
                                                                                                                                                                                                                                                  Int))
                                                                                                                                                                                                                                          else
                                                                                                                                                                                                                                            false then
                                                                                                                                                                                                                                        decide
                                                                                                                                                                                                                                          (y_6.snd.fst =
                                                                                                                                                                                                                                            (0 :
                                                                                                                                                                                                                                              Int))
                                                                                                                                                                                                                                      else
                                                                                                                                                                                                                                        false then
                                                                                                                                                                                                                                    decide
                                                                                                                                                                                                                                      (y_4.snd.fst =
                                                                                                                                                                                                                                        (0 :
                                                                                                                                                                                                                                          Int))
                                                                                                                                                                                                                                  else
                                                                                                                                                                                                                                    false) ==
                                                                                                                                                                                                                                  true) =
                                                                                                                                                                                                                                true) ∧
                                                                                                                                                                                                                            ((bif
                                                                                                                                                                                                                                      bif
                                                                                                                                                                                                                                          bif
                                                                                                                                                                                                                                              bif
                                                                                                                                                                                                                                                  decide
                                                                                                                                                                                                                                                    (y.snd.fst =
                                                                                                                                                                                                                                                      (0 :
                                                                                                                                                                                                                                                        Int)) then
                                                                                                                                                                                                                                                decide
                                                                                                                                                                                                                                                  (y_4.snd.snd.fst =
                                                                                                                                                                                                                                                    (0 :
                                                                                                                                                                                                                                                      Int))
                                                                                                                                                                                                                                              else
                                                                                                                                                                                                                                                false then
                                                                                                                                                                                                                                            decide
                                                                                                                                                                                                                                              (y_6.snd.fst =
                                                                                                                                                                                                                                                (0 :
                                                                                                                                                                                                                                                  Int))
                                                                                                                                                                                                                                          else
                                                                                                                                                                                                                                            false then
                                                                                                                                                                                                                                        decide
                                                                                                                                                                                                                                          (y_4.snd.fst =
                                                                                                                                                                                                                                            (0 :
                                                                                                                                                                                                                                              Int))
                                                                                                                                                                                                                                      else
                                                                                                                                                                                                                                        false then
                                                                                                                                                                                                                                    decide
                                                                                                                                                                                                                                      (y_4.fst =
                                                                                                                                                                                                                                        x.snd.fst)
                                                                                                                                                                                                                                  else
                                                                                                                                                                                                                                    false) =
                                                                                                                                                                                                                                  true →
                                                                                                                                                                                                                                True) ∧
                                                                                                                                                                                                                              ((bif
                                                                                                                                                                                                                                        bif
                                                                                                                                                                                                                                            bif
                                                                                                                                                                                                                                                bif
                                                                                                                                                                                                                                                    decide
                                                                                                                                                                                                                                                      (y.snd.fst =
                                                                                                                                                                                                                                                        (0 :
                                                                                                                                                                                                                                                          Int)) then
                                                                                                                                                                                                                                                  decide
                                                                                                                                                                                                                                                    (y_4.snd.snd.fst =
                                                                                                                                                                                                                                                      (0 :
                                                                                                                                                                                                                                                        Int))
                                                                                                                                                                                                                                                else
                                                                                                                                                                                                                                                  false then
                                                                                                                                                                                                                                              decide
                                                                                                                                                                                                                                                (y_6.snd.fst =
                                                                                                                                                                                                                                                  (0 :
                                                                                                                                                                                                                                                    Int))
                                                                                                                                                                                                                                            else
                                                                                                                                                                                                                                              false then
                                                                                                                                                                                                                                          decide
                                                                                                                                                                                                                                            (y_4.snd.fst =
                                                                                                                                                                                                                                              (0 :
                                                                                                                                                                                                                                                Int))
                                                                                                                                                                                                                                        else
                                                                                                                                                                                                                                          false then
                                                                                                                                                                                                                                      decide
                                                                                                                                                                                                                                        (y_4.fst =
                                                                                                                                                                                                                                          x.snd.fst)
                                                                                                                                                                                                                                    else
                                                                                                                                                                                                                                      false) =
                                                                                                                                                                                                                                    true →
                                                                                                                                                                                                                                  True) ∧
                                                                                                                                                                                                                                ((bif
                                                                                                                                                                                                                                          bif
                                                                                                                                                                                                                                              bif
                                                                                                                                                                                                                                                  bif
                                                                                                                                                                                                                                                      decide
                                                                                                                                                                                                                                                        (y.snd.fst =
                                                                                                                                                                                                                                                          (0 :
                                                                                                                                                                                                                                                            Int)) then
                                                                                                                                                                                                                                                    decide
                                                                                                                                                                                                                                                      (y_4.snd.snd.fst =
                                                                                                                                                                                                                                                        (0 :
                                                                                                                                                                                                                                                          Int))
                                                                                                                                                                                                                                                  else
                                                                                                                                                                                                                                                    false then
                                                                                                                                                                                                                                                decide
                                                                                                                                                                                                                                                  (y_6.snd.fst =
                                                                                                                                                                                                                                                    (0 :
                                                                                                                                                                                                                                                      Int))
                                                                                                                                                                                                                                              else
                                                                                                                                                                                                                                                false then
                                                                                                                                                                                                                                            decide
                                                                                                                                                                                                                                              (y_4.snd.fst =
                                                                                                                                                                                                                                                (0 :
                                                                                                                                                                                                                                                  Int))
                                                                                                                                                                                                                                          else
                                                                                                                                                                                                                                            false then
                                                                                                                                                                                                                                        decide
                                                                                                                                                                                                                                          (y_4.fst =
                                                                                                                                                                                                                                            x.snd.fst)
                                                                                                                                                                                                                                      else
                                                                                                                                                                                                                                        false) =
                                                                                                                                                                                                                                      true →
                                                                                                                                                                                                                                    ((bif
                                                                                                                                                                                                                                              bif
                                                                                                                                                                                                                                                  bif
                                                                                                                                                                                                                                                      bif
                                                                                                                                                                                                                                                          decide
                                                                                                                                                                                                                                                            (y.snd.fst =
                                                                                                                                                                                                                                                              (0 :
                                                                                                                                                                                                                                                                Int)) then
                                                                                                                                                                                                                                                        decide
                                                                                                                                                                                                                                                          (y_4.snd.snd.fst =
                                                                                                                                                                                                                                                            (0 :
                                                                                                                                                                                                                                                              Int))
                                                                                                                                                                                                                                                      else
                                                                                                                                                                                                                                                        false then
                                                                                                                                                                                                                                                    decide
                                                                                                                                                                                                                                                      (y_6.snd.fst =
                                                                                                                                                                                                                                                        (0 :
                                                                                                                                                                                                                                                          Int))
                                                                                                                                                                                                                                                  else
                                                                                                                                                                                                                                                    false then
                                                                                                                                                                                                                                                decide
                                                                                                                                                                                                                                                  (y_4.snd.fst =
                                                                                                                                                                                                                                                    (0 :
                                                                                                                                                                                                                                                      Int))
                                                                                                                                                                                                                                              else
                                                                                                                                                                                                                                                false then
                                                                                                                                                                                                                                            decide
                                                                                                                                                                                                                                              (y_4.fst =
                                                                                                                                                                                                                                                x.snd.fst)
                                                                                                                                                                                                                                          else
                                                                                                                                                                                                                                            false) ==
                                                                                                                                                                                                                                          true) =
                                                                                                                                                                                                                                        true ∧
                                                                                                                                                                                                                                      True) ∧
                                                                                                                                                                                                                                  ((bif
                                                                                                                                                                                                                                            bif
                                                                                                                                                                                                                                                bif
                                                                                                                                                                                                                                                    bif
                                                                                                                                                                                                                                                        decide
                                                                                                                                                                                                                                                          (y.snd.fst =
                                                                                                                                                                                                                                                            (0 :
                                                                                                                                                                                                                                                              Int)) then
                                                                                                                                                                                                                                                      decide
                                                                                                                                                                                                                                                        (y_4.snd.snd.fst =
                                                                                                                                                                                                                                                          (0 :
                                                                                                                                                                                                                                                            Int))
                                                                                                                                                                                                                                                    else
                                                                                                                                                                                                                                                      false then
                                                                                                                                                                                                                                                  decide
                                                                                                                                                                                                                                                    (y_6.snd.fst =
                                                                                                                                                                                                                                                      (0 :
                                                                                                                                                                                                                                                        Int))
                                                                                                                                                                                                                                                else
                                                                                                                                                                                                                                                  false then
                                                                                                                                                                                                                                              decide
                                                                                                                                                                                                                                                (y_4.snd.fst =
                                                                                                                                                                                                                                                  (0 :
                                                                                                                                                                                                                                                    Int))
                                                                                                                                                                                                                                            else
                                                                                                                                                                                                                                              false then
                                                                                                                                                                                                                                          decide
                                                                                                                                                                                                                                            (y_4.fst =
                                                                                                                                                                                                                                              x.snd.fst)
                                                                                                                                                                                                                                        else
                                                                                                                                                                                                                                          false) =
                                                                                                                                                                                                                                        true →
                                                                                                                                                                                                                                      ((bif
                                                                                                                                                                                                                                                bif
                                                                                                                                                                                                                                                    bif
                                                                                                                                                                                                                                                        bif
                                                                                                                                                                                                                                                            decide
                                                                                                                                                                                                                                                              (y.snd.fst =
                                                                                                                                                                                                                                                                (0 :
                                                                                                                                                                                                                                                                  Int)) then
                                                                                                                                                                                                                                                          decide
                                                                                                                                                                                                                                                            (y_4.snd.snd.fst =
                                                                                                                                                                                                                                                              (0 :
                                                                                                                                                                                                                                                                Int))
                                                                                                                                                                                                                                                        else
                                                                                                                                                                                                                                                          false then
                                                                                                                                                                                                                                                      decide
                                                                                                                                                                                                                                                        (y_6.snd.fst =
                                                                                                                                                                                                                                                          (0 :
                                                                                                                                                                                                                                                            Int))
                                                                                                                                                                                                                                                    else
                                                                                                                                                                                                                                                      false then
                                                                                                                                                                                                                                                  decide
                                                                                                                                                                                                                                                    (y_4.snd.fst =
                                                                                                                                                                                                                                                      (0 :
                                                                                                                                                                                                                                                        Int))
                                                                                                                                                                                                                                                else
                                                                                                                                                                                                                                                  false then
                                                                                                                                                                                                                                              decide
                                                                                                                                                                                                                                                (y_4.fst =
                                                                                                                                                                                                                                                  x.snd.fst)
                                                                                                                                                                                                                                            else
                                                                                                                                                                                                                                              false) ==
                                                                                                                                                                                                                                            true) =
                                                                                                                                                                                                                                          true ∧
                                                                                                                                                                                                                                        ((bif
                                                                                                                                                                                                                                                  bif
                                                                                                                                                                                                                                                      bif
                                                                                                                                                                                                                                                          bif
                                                                                                                                                                                                                                                              decide
                                                                                                                                                                                                                                                                (y.snd.fst =
                                                                                                                                                                                                                                                                  (0 :
                                                                                                                                                                                                                                                                    Int)) then
                                                                                                                                                                                                                                                            decide
                                                                                                                                                                                                                                                              (y_4.snd.snd.fst =
                                                                                                                                                                                                                                                                (0 :
                                                                                                                                                                                                                                                                  Int))
                                                                                                                                                                                                                                                          else
                                                                                                                                                                                                                                                            false then
                                                                                                                                                                                                                                                        decide
                                                                                                                                                                                                                                                          (y_6.snd.fst =
                                                                                                                                                                                                                                                            (0 :
                                                                                                                                                                                                                                                              Int))
                                                                                                                                                                                                                                                      else
                                                                                                                                                                                                                                                        false then
                                                                                                                                                                                                                                                    decide
                                                                                                                                                                                                                                                      (y_4.snd.fst =
                                                                                                                                                                                                                                                        (0 :
                                                                                                                                                                                                                                                          Int))
                                                                                                                                                                                                                                                  else
                                                                                                                                                                                                                                                    false then
                                                                                                                                                                                                                                                decide
                                                                                                                                                                                                                                                  (y_4.fst =
                                                                                                                                                                                                                                                    x.snd.fst)
                                                                                                                                                                                                                                              else
                                                                                                                                                                                                                                                false) ==
                                                                                                                                                                                                                                              true) =
                                                                                                                                                                                                                                            true ∧
                                                                                                                                                                                                                                          True) ∧
                                                                                                                                                                                                                                    ((bif
                                                                                                                                                                                                                                              bif
                                                                                                                                                                                                                                                  bif
                                                                                                                                                                                                                                                      bif
                                                                                                                                                                                                                                                          decide
                                                                                                                                                                                                                                                            (y.snd.fst =
                                                                                                                                                                                                                                                              (0 :
                                                                                                                                                                                                                                                                Int)) then
                                                                                                                                                                                                                                                        decide
                                                                                                                                                                                                                                                          (y_4.snd.snd.fst =
                                                                                                                                                                                                                                                            (0 :
                                                                                                                                                                                                                                                              Int))
                                                                                                                                                                                                                                                      else
                                                                                                                                                                                                                                                        false then
                                                                                                                                                                                                                                                    decide
                                                                                                                                                                                                                                                      (y_6.snd.fst =
                                                                                                                                                                                                                                                        (0 :
                                                                                                                                                                                                                                                          Int))
                                                                                                                                                                                                                                                  else
                                                                                                                                                                                                                                                    false then
                                                                                                                                                                                                                                                decide
                                                                                                                                                                                                                                                  (y_4.snd.fst =
                                                                                                                                                                                                                                                    (0 :
                                                                                                                                                                                                                                                      Int))
                                                                                                                                                                                                                                              else
                                                                                                                                                                                                                                                false then
                                                                                                                                                                                                                                            decide
                                                                                                                                                                                                                                              (y_4.fst =
                                                                                                                                                                                                                                                x.snd.fst)
                                                                                                                                                                                                                                          else
                                                                                                                                                                                                                                            false) =
                                                                                                                                                                                                                                          true →
                                                                                                                                                                                                                                        ((bif
                                                                                                                                                                                                                                                bif
                                                                                                                                                                                                                                                    bif
                                                                                                                                                                                                                                                        bif
                                                                                                                                                                                                                                                            decide
                                                                                                                                                                                                                                                              (y.snd.fst =
                                                                                                                                                                                                                                                                (0 :
                                                                                                                                                                                                                                                                  Int)) then
                                                                                                                                                                                                                                                          decide
                                                                                                                                                                                                                                                            (y_4.snd.snd.fst =
                                                                                                                                                                                                                                                              (0 :
                                                                                                                                                                                                                                                                Int))
                                                                                                                                                                                                                                                        else
                                                                                                                                                                                                                                                          false then
                                                                                                                                                                                                                                                      decide
                                                                                                                                                                                                                                                        (y_6.snd.fst =
                                                                                                                                                                                                                                                          (0 :
                                                                                                                                                                                                                                                            Int))
                                                                                                                                                                                                                                                    else
                                                                                                                                                                                                                                                      false then
                                                                                                                                                                                                                                                  decide
                                                                                                                                                                                                                                                    (y_4.snd.fst =
                                                                                                                                                                                                                                                      (0 :
                                                                                                                                                                                                                                                        Int))
                                                                                                                                                                                                                                                else
                                                                                                                                                                                                                                                  false then
                                                                                                                                                                                                                                              decide
                                                                                                                                                                                                                                                (y_4.fst =
                                                                                                                                                                                                                                                  x.snd.fst)
                                                                                                                                                                                                                                            else
                                                                                                                                                                                                                                              false) ==
                                                                                                                                                                                                                                            true) =
                                                                                                                                                                                                                                          true) ∧
                                                                                                                                                                                                                                      (bif
                                                                                                                                                                                                                                            bif
                                                                                                                                                                                                                                                bif
                                                                                                                                                                                                                                                    bif
                                                                                                                                                                                                                                                        bif
                                                                                                                                                                                                                                                            decide
                                                                                                                                                                                                                                                              (y.snd.fst =
                                                                                                                                                                                                                                                                (0 :
                                                                                                                                                                                                                                                                  Int)) then
                                                                                                                                                                                                                                                          decide
                                                                                                                                                                                                                                                            (y_4.snd.snd.fst =
                                                                                                                                                                                                                                                              (0 :
                                                                                                                                                                                                                                                                Int))
                                                                                                                                                                                                                                                        else
                                                                                                                                                                                                                                                          false then
                                                                                                                                                                                                                                                      decide
                                                                                                                                                                                                                                                        (y_6.snd.fst =
                                                                                                                                                                                                                                                          (0 :
                                                                                                                                                                                                                                                            Int))
                                                                                                                                                                                                                                                    else
                                                                                                                                                                                                                                                      false then
                                                                                                                                                                                                                                                  decide
                                                                                                                                                                                                                                                    (y_4.snd.fst =
                                                                                                                                                                                                                                                      (0 :
                                                                                                                                                                                                                                                        Int))
                                                                                                                                                                                                                                                else
                                                                                                                                                                                                                                                  false then
                                                                                                                                                                                                                                              decide
                                                                                                                                                                                                                                                (y_4.fst =
                                                                                                                                                                                                                                                  x.snd.fst)
                                                                                                                                                                                                                                            else
                                                                                                                                                                                                                                              false then
                                                                                                                                                                                                                                          decide
                                                                                                                                                                                                                                            (y_6.fst =
                                                                                                                                                                                                                                              decide
                                                                                                                                                                                                                                                ((0 :
                                                                                                                                                                                                                                                    Int) <
                                                                                                                                                                                                                                                  x.fst))
                                                                                                                                                                                                                                        else
                                                                                                                                                                                                                                          false) =
                                                                                                                                                                                                                                        true) ∧
                                                                                                                                                                                        True) ∧
                                                                                                                                                                              True) ∧
                                                                                                                                                                    True) ∧
                                                                                                                                                          True)) ∧
                                                                                                                                    True) ∧
                                                                                                                          True))) ∧
                                                      True) ∧
                                            True)) ∧
                      True) ∧
            True
theorem e5 : t5 = Con.vc c5 GL (mkEnv ty [(23, conSem c23), (13, conSem c13), (9, conSem c9), (17, conSem c17), (24, conSem c24), (21, conSem c21), (25, conSem c25), (19, conSem c19), (26, conSem c26), (15, conSem c15)] [] [] [0, 1, 2, 6, 7, 8, 9, 10, 11, 12, 13, 14, 15, 16, 17, 30, 58, 65, 72, 85]) {} Tryd.f5.ntmps Tryd.f5.results.toList (bodyOf Tryd.f5) := by kernel_rfl
theorem k5 : t5 := by
  unfold t5
  rintro ⟨n, l, f, _⟩ hx hp
  have hl : l.length ≤ 1048573 := by
    simp [ABulk, AK.bulk, Kd.bulk, sum_ones] at hp
    omega
  have hf := u16_rng hx.2.2.1
  try dsimp +instances only [dft_int, dft_sl, dft_str]
  simp only [true_and, and_true, eq_self_iff_true, implies_true, reduceCtorEq, false_implies, true_implies, decide_eq_true_eq, decide_eq_false_iff_not, beq_self_eq_true, Bool.not_eq_true', ne_eq, Decidable.not_not, List.nil_append, List.length_singleton, List.length_cons, List.length_nil, Nat.zero_add, Nat.add_zero, Nat.mul_one, and_self, beq_iff_eq, Bool.not_true, Bool.not_false, Bool.not_eq_false', Bool.cond_false_right, Bool.and_eq_true, imp_self, Bool.not_eq_true, Bool.cond_true_left, Bool.or_eq_true]
  rintro ⟨y0, _⟩ _ e0 ⟨a1, c1, _⟩ _ e1
  simp only at e0 e1 ⊢
  rw [e0, int_back hx.1] at e1
  cases e1
  refine ⟨fun h => by simp at h, fun _ => ⟨by omega, ?_⟩⟩
  rintro ⟨y2, _⟩ _ e2
  simp only at e2 ⊢
  have hnl := nat_le l
  refine ⟨by rw [e2]; omega, ?_⟩
  rintro ⟨t, c2, _⟩ _ e3
  simp only at e3 ⊢
  rw [e2, nat_back] at e3
  obtain ⟨rfl, rfl⟩ : t = trimD l ∧ c2 = 0 := by simpa using e3
  have ht := trim_le l
  have hw : IntKind.wrap .i64 ((l.length : Int) - ((trimD l).length : Int)) = ((l.length - (trimD l).length : Nat) : Int) := by rw [wrapk _ (by omega) (by omega)]; omega
  rw [hw, Int.toNat_natCast, trim_drop]
  refine ⟨fun h => ⟨h, h, by omega, by omega⟩, fun h => ?_, fun _ => ?_⟩
  · rcases h with (h | h) | h
    · exact h rfl
    · omega
    · exact h rfl
  refine ⟨fun y _ => 0 ≤ y.1 ∧ y.1 ≤ ((l.length - (trimD l).length : Nat) : Int), fun y _ => (((l.length - (trimD l).length : Nat) : Int) - y.1).toNat, ⟨by omega, by omega⟩, ?_⟩
  rintro ⟨i, b, _⟩ z _ ⟨h0, h1⟩
  simp only at h0 h1 ⊢
  refine ⟨fun hlt => ⟨⟨h0, by omega⟩, fun h => h (trim_zero l i.toNat (by omega)), fun _ => ?_⟩, fun _ => ?_⟩
  · have hw2 : IntKind.wrap .i64 (i + 1) = i + 1 := wrapk _ (by omega) (by omega)
    rw [hw2]
    exact ⟨⟨by omega, by omega⟩, by omega⟩
  rintro ⟨y3, _⟩ _ e4
  simp only at e4 ⊢
  have hfl := flags_len f.toNat
  refine ⟨by rw [e4]; omega, ?_⟩
  rintro ⟨g, c3, _⟩ _ e5
  simp only at e5 ⊢
  rw [e4, flags_back f hf.1 hf.2] at e5
  cases e5
  refine ⟨fun h => by simp at h, fun _ => ⟨by omega, ?_⟩⟩
  rintro ⟨y4, c4, _⟩ _ e6
  simp only at e6 ⊢
  rw [(bits0 l).1] at e6
  cases e6
  refine ⟨by simp; omega, ?_⟩
  rintro ⟨y5, u5, c5, _⟩ _ e7
  simp only at e7 ⊢
  rw [(bits0 l).2] at e7
  cases e7
  rintro ⟨y6, _⟩ _ e8 ⟨b7, c7, _⟩ _ e9
  simp only at e8 e9 ⊢
  rw [e8, bool_back] at e9
  cases e9
  simp
theorem h5 : c5.ok Tryd.prog GL 5 := con_ok (H := {}) (mkEnv_ok (gl := GL) (l := [(23, conSem c23), (13, conSem c13), (9, conSem c9), (17, conSem c17), (24, conSem c24), (21, conSem c21), (25, conSem c25), (19, conSem c19), (26, conSem c26), (15, conSem c15)]) (q := []) (d := []) _ tyOk (by kernel_rfl) ⟨h23.call, h13.call, h9.call, h17.call, h24.call, h21.call, h25.call, h19.call, h26.call, h15.call, trivial⟩ trivial trivial) (by kernel_rfl) (by kernel_rfl) (Eq.mp e5 k5)

end Go.Proofs.YtgikinbkhhfgiaaDoor
