/- Walks. -/
import Derived.Test.YtgikinbkhhfgiaaDoorZW4
set_option linter.unusedVariables false
set_option linter.unusedSimpArgs false
namespace Go.Proofs.YtgikinbkhhfgiaaDoor
open Go Go.Vc Go.Proofs
set_option linter.unusedVariables false
set_option linter.unusedSimpArgs false
theorem byte_mem {l : List Int} (h : Kd.wf BY l) : ∀ b ∈ l, 0 ≤ b ∧ b ≤ 255 := fun b hb => by
  have h2 : InR .u8 b := h.2 b hb
  simpa [InR, IntKind.min, IntKind.max, IntKind.signed, IntKind.bits] using h2
theorem low_fold : ∀ (l : List Int) (c : Int), (∀ b ∈ l, 0 ≤ b ∧ b ≤ 255) → low (foldB c l) l.length = l
  | [], _, _ => rfl
  | b :: r, c, h => by
    have hr : ∀ b ∈ r, 0 ≤ b ∧ b ≤ 255 := fun x hx => h x (List.mem_cons_of_mem _ hx)
    have hb := h b (by simp)
    have e : foldB c (b :: r) = foldB (c * 256 + b) r := rfl
    have hbd := fold_bnd r (c * 256 + b) hr
    have hP : (0 : Int) < 256 ^ r.length := Int.pow_pos (by decide)
    have hd : foldB (c * 256 + b) r / 256 ^ r.length = c * 256 + b := by
      have : foldB (c * 256 + b) r = (foldB (c * 256 + b) r - (c * 256 + b) * 256 ^ r.length) + (c * 256 + b) * 256 ^ r.length := by omega
      rw [this, Int.add_mul_ediv_right _ _ (by omega), Int.ediv_eq_zero_of_lt (by omega) (by omega), Int.zero_add]
    rw [e, List.length_cons, low, hd, low_fold r _ hr]
    congr 1
    omega
theorem getD_drop (l : List Int) (i j : Nat) : (l.drop i).getD j 0 = l.getD (i + j) 0 := by
  rw [List.getD_eq_getElem?_getD, List.getElem?_drop, ← List.getD_eq_getElem?_getD]
theorem fit_val {a : Int} {r : List Int} (h : Kd.wf BY (a :: r)) (hr : r.length ≤ 7) : fit (foldB (sx a) r) (r.length + 1) := by
  have hb := sx_bnd (head_bnd h)
  have h1 := fold_bnd r (sx a) (byte_mem (tail_wf h))
  have hp0 : (0 : Int) < 256 ^ r.length := Int.pow_pos (by decide)
  have h3 : -128 * 256 ^ r.length ≤ sx a * 256 ^ r.length := Int.mul_le_mul_of_nonneg_right hb.1 (by omega)
  have h4 : sx a * 256 ^ r.length ≤ 127 * 256 ^ r.length := Int.mul_le_mul_of_nonneg_right hb.2 (by omega)
  generalize foldB (sx a) r = x at h1 ⊢
  generalize sx a * 256 ^ r.length = y at h1 h3 h4
  generalize r.length = n at *
  match n, hr with
  | 0, _ | 1, _ | 2, _ | 3, _ | 4, _ | 5, _ | 6, _ | 7, _ => simp [fit] at *; omega
theorem int_of {l : List Int} {a : Int} (hw : Kd.wf BY l) (h : (a, (0 : Int)) = ToIntD l) : IntD a = l := by
  unfold ToIntD at h
  split at h
  · cases h
  · rename_i hs
    split at h
    · cases h
    · rename_i h8
      have ha : a = valD l := by cases h; rfl
      rcases l with _ | ⟨x, r⟩
      · exact absurd rfl hs
      · have hr : r.length ≤ 7 := by simp at h8; omega
        have hx := head_bnd hw
        rw [val_cons r hx] at ha
        have hfit := fit_val hw hr
        rw [← ha] at hfit
        have hlow : low a (r.length + 1) = x :: r := by
          have e : a = foldB (if 128 ≤ x then -1 else 0) (x :: r) := by
            rw [ha]
            show _ = foldB ((if 128 ≤ x then -1 else 0) * 256 + x) r
            congr 1
            unfold sx
            split <;> omega
          have := low_fold (x :: r) (if 128 ≤ x then -1 else 0) (byte_mem hw)
          rw [← e] at this
          exact this
        have hwide : wide a 1 7 = r.length + 1 := by
          refine wide_eq a _ (by omega) (by omega) hfit ?_
          rcases r with _ | ⟨y, r⟩
          · exact .inl rfl
          · right
            simp only [List.length_cons] at hr hfit hlow ⊢
            have hst := fit_step a (8 - (r.length + 1 + 1)) (by omega) (by rw [show 8 - (8 - (r.length + 1 + 1)) = r.length + 1 + 1 by omega]; exact hfit)
            have hd := low_drop a (8 - (r.length + 1 + 1)) (by omega)
            rw [show 8 - (8 - (r.length + 1 + 1)) = r.length + 1 + 1 by omega, hlow] at hd
            have g0 : (low a 8).getD (8 - (r.length + 1 + 1)) 0 = x := by
              have := getD_drop (low a 8) (8 - (r.length + 1 + 1)) 0
              rw [hd] at this
              exact this.symm
            have g1 : (low a 8).getD (8 - (r.length + 1 + 1) + 1) 0 = y := by
              have := getD_drop (low a 8) (8 - (r.length + 1 + 1)) 1
              rw [hd] at this
              exact this.symm
            rw [g0, g1, show 7 - (8 - (r.length + 1 + 1)) = r.length + 1 + 1 - 1 by omega] at hst
            intro hc
            have h5 := hst.2 hc
            simp only [ShortD, Bool.not_eq_false', Bool.or_eq_true, Bool.and_eq_true, decide_eq_true_eq] at hs
            exact hs h5
        rw [IntD, hwide, hlow]
theorem nat_of {l t : List Int} (h : (t, (0 : Int)) = ToNatD l) : NatD t = l ∧ (0 < t.length → t.getD 0 0 ≠ 0) := by
  unfold ToNatD at h
  split at h
  · cases h
  · rename_i hs
    split at h
    · cases h
    · rename_i hh
      have ht : t = trimD l := by cases h; rfl
      have key : ∀ (a : Int) (r : List Int), a ≠ 0 → NatD (a :: r) = if 128 ≤ a then 0 :: a :: r else a :: r := by
        intro a r ha
        rw [NatD, trim_cons r ha]
        rfl
      rcases l with _ | ⟨a, r⟩
      · exact absurd rfl hs
      · have hh : ¬ 128 ≤ a := by simpa using hh
        by_cases ha : a = 0
        · subst ha
          rcases r with _ | ⟨b, r⟩
          · rw [ht]; exact ⟨rfl, fun h => absurd h (by decide)⟩
          · have hb : 128 ≤ b := by
              simp [ShortD] at hs
              omega
            have e : trimD (0 :: b :: r) = b :: r := by
              have : trimD (0 :: b :: r) = trimD (b :: r) := rfl
              rw [this, trim_cons r (by omega)]
            rw [ht, e, key b r (by omega), if_pos hb]
            exact ⟨rfl, fun _ => by simp; omega⟩
        · rw [ht, trim_cons r ha, key a r ha, if_neg hh]
          exact ⟨rfl, fun _ => by simpa using ha⟩
theorem natT_le {l t : List Int} {c : Int} (h : (t, c) = ToNatD l) : t.length ≤ l.length := by
  have h8 := trim_le l
  have : t = (ToNatD l).1 := by rw [← h]
  rw [this, ToNatD]
  split
  · simp
  · split
    · simp
    · exact h8
theorem bool_of {l : List Int} {b : Bool} (h : (b, (0 : Int)) = ToBoolD l) : BoolD b = l := by
  unfold ToBoolD at h
  split at h
  · rename_i e; cases h; exact e.symm
  · split at h
    · rename_i e; cases h; exact e.symm
    · cases h
theorem flags_of {l : List Int} {f : Int} (hw : Kd.wf BY l) (h : (f, (0 : Int)) = ToFlagsD l) : FlagsD f.toNat = l := by
  rcases l with _ | ⟨u, bits⟩
  · cases h
  · have hwb := tail_wf hw
    rw [ToFlagsD] at h
    by_cases hf : FitsD bits u = true
    · rw [ToBitsD, if_pos hf] at h
      simp only at h
      rw [if_neg (by simp)] at h
      obtain ⟨h0, h7, he, hz⟩ := fits_rng hf
      split at h
      · cases h
      · rename_i hc
        split at h
        · cases h
        · rename_i h2
          have hfv : f = flagsD bits := by cases h; rfl
          rcases bits with _ | ⟨a, _ | ⟨b, _ | ⟨c, r⟩⟩⟩
          · have := he rfl
            subst this
            rw [hfv]
            rfl
          · have ha := head_bnd hwb
            have hz := hz (by simp)
            have hc : ¬ (a / 2 ^ u.toNat) % 2 = 0 := fun hh => hc ⟨by simp, hh⟩
            have key : ∀ a : Fin 256, ∀ u : Fin 8, (a.val : Int) % 2 ^ u.val = 0 → ¬ ((a.val : Int) / 2 ^ u.val) % 2 = 0 → FlagsD (prev a.val 8) = [(u.val : Int), (a.val : Int)] := by decide +kernel
            have hk := key ⟨a.toNat, by omega⟩ ⟨u.toNat, by omega⟩
            simp only [Int.toNat_of_nonneg ha.1, Int.toNat_of_nonneg h0] at hk
            rw [hfv]
            exact hk hz hc
          · have ha := head_bnd hwb
            have hb := head_bnd (tail_wf hwb)
            have hz := hz (by simp)
            have hc : ¬ (b / 2 ^ u.toNat) % 2 = 0 := fun hh => hc ⟨by simp, hh⟩
            have key : ∀ a : Fin 256, ∀ u : Fin 8, (a.val : Int) % 2 ^ u.val = 0 → ¬ ((a.val : Int) / 2 ^ u.val) % 2 = 0 → 1 ≤ prev a.val 8 ∧ 8 - (lastb (prev a.val 8) 8 : Int) = (u.val : Int) ∧ (prev (prev a.val 8) 8 : Int) = (a.val : Int) := by decide +kernel
            have hk := key ⟨b.toNat, by omega⟩ ⟨u.toNat, by omega⟩
            simp only [Int.toNat_of_nonneg hb.1, Int.toNat_of_nonneg h0] at hk
            obtain ⟨k1, k2, k3⟩ := hk hz hc
            have la := prev_lt a.toNat (by omega)
            have lb := prev_lt b.toNat (by omega)
            have e : f.toNat = prev a.toNat 8 + 256 * prev b.toNat 8 := by
              rw [hfv, flagsD]
              omega
            have e1 : f.toNat / 256 = prev b.toNat 8 := by omega
            have e2 : f.toNat % 256 = prev a.toNat 8 := by omega
            rw [FlagsD, if_neg (by omega), if_neg (by omega), e1, e2, k2, k3, prev2 _ (by omega), Int.toNat_of_nonneg ha.1]
          · simp at h2
    · rw [ToBitsD, if_neg hf] at h
      simp at h
def t6 : Prop :=
  ∀ (x : List Int × Unit),
    Kd.wf (Kd.sl (Kd.int IntKind.u8)) x.fst ∧ True →
      ABulk [AK.dat (Kd.sl (Kd.int IntKind.u8))] x ≤ (1048576 : Nat) →
        True ∧
          (∀ (y : Int × Int × Unit),
              Kd.wf (Kd.int IntKind.i64) y.fst ∧ Kd.wf (Kd.int IntKind.i64) y.snd.fst ∧ True →
                (y.fst, y.snd.fst) = ToIntD x.fst →
                  ∃ (J : Bool × Unit → Unit → Prop),
                    ((((decide (y.snd.fst = (0 : Int)) = true →
                              (decide (y.snd.fst = (0 : Int)) == true) = true ∧
                                True ∧
                                  (∀ (y_1 : List Int × Unit),
                                      Kd.wf (Kd.sl (Kd.int IntKind.u8)) y_1.fst ∧ True →
                                        y_1.fst = IntD y.fst →
                                          (((decide (y.snd.fst = (0 : Int)) == true) = true ∧
                                                (((decide (y_1.fst ≠ x.fst) = true → false = true) ∧
                                                      (decide (y_1.fst ≠ x.fst) = false → y.snd.fst = y.snd.fst ∧ y.fst = y.fst ∧ x.fst = x.fst ∧ J (false, ()) ())) ∧
                                                    True) ∧
                                                  True) ∧
                                              True) ∧
                                            ((decide (y.snd.fst = (0 : Int)) == true) = true ∧
                                                ((((decide (y_1.fst ≠ x.fst) = true → false = true) ∧
                                                        (decide (y_1.fst ≠ x.fst) = false → y.snd.fst = y.snd.fst ∧ y.fst = y.fst ∧ x.fst = x.fst ∧ J (false, ()) ())) ∧
                                                      True) ∧
                                                    True) ∧
                                                  True) ∧
                                              True) ∧
                                    True) ∧
                            (decide (y.snd.fst = (0 : Int)) = !true →
                              ((((y.snd.fst = y.snd.fst ∧ y.fst = y.fst ∧ x.fst = x.fst ∧ J (false, ()) ()) ∧ True) ∧ True) ∧ True) ∧
                                ((((y.snd.fst = y.snd.fst ∧ y.fst = y.fst ∧ x.fst = x.fst ∧ J (false, ()) ()) ∧ True) ∧ True) ∧ True) ∧ True)) ∧
                          ((decide (y.snd.fst = (0 : Int)) = true → (decide (y.snd.fst = (0 : Int)) == true) = true ∧ True) ∧
                              ((decide (y.snd.fst = (0 : Int)) = true →
                                    (decide (y.snd.fst = (0 : Int)) == true) = true ∧
                                      True ∧
                                        (∀ (y_1 : List Int × Unit),
                                            Kd.wf (Kd.sl (Kd.int IntKind.u8)) y_1.fst ∧ True →
                                              y_1.fst = IntD y.fst →
                                                (((decide (y.snd.fst = (0 : Int)) == true) = true ∧
                                                      ((decide (y_1.fst ≠ x.fst) = true → false = true) ∧
                                                          (decide (y_1.fst ≠ x.fst) = false → y.snd.fst = y.snd.fst ∧ y.fst = y.fst ∧ x.fst = x.fst ∧ J (false, ()) ())) ∧
                                                        True) ∧
                                                    True) ∧
                                                  True) ∧
                                          True) ∧
                                  (decide (y.snd.fst = (0 : Int)) = !true → (((y.snd.fst = y.snd.fst ∧ y.fst = y.fst ∧ x.fst = x.fst ∧ J (false, ()) ()) ∧ True) ∧ True) ∧ True)) ∧
                                True) ∧
                            True) ∧
                        True) ∧
                      ∀ (u : Bool × Unit) (z : Unit),
                        Kd.wf Kd.bool u.fst ∧ True →
                          True →
                            J u z →
                              List.length x.fst ≤ (2000000 : Nat) ∧
                                (∀ (y_1 : List Int × Int × Unit),
                                    Kd.wf (Kd.sl (Kd.int IntKind.u8)) y_1.fst ∧ Kd.wf (Kd.int IntKind.i64) y_1.snd.fst ∧ True →
                                      (y_1.fst, y_1.snd.fst) = ToNatD x.fst →
                                        ∃ (J : Bool × Unit → Unit → Prop),
                                          ((((decide (y_1.snd.fst = (0 : Int)) = true →
                                                    (decide (y_1.snd.fst = (0 : Int)) == true) = true ∧
                                                      List.length y_1.fst ≤ (2000000 : Nat) ∧
                                                        (∀ (y_2 : List Int × Unit),
                                                            Kd.wf (Kd.sl (Kd.int IntKind.u8)) y_2.fst ∧ True →
                                                              y_2.fst = NatD y_1.fst →
                                                                (((decide (y_1.snd.fst = (0 : Int)) == true) = true ∧
                                                                      (((decide (y_2.fst ≠ x.fst) = false → (decide (y_2.fst ≠ x.fst) == false) = true ∧ True) ∧
                                                                            ((decide (y_2.fst ≠ x.fst) = false → (decide (y_2.fst ≠ x.fst) == false) = true ∧ True) ∧
                                                                                (((decide (y_2.fst ≠ x.fst) == false && decide (y_2.fst ≠ x.fst) == false) = true →
                                                                                      decide ((0 : Int) < (↑(List.length y_1.fst) : Int)) = true →
                                                                                        (decide (y_2.fst ≠ x.fst) == false && decide (y_2.fst ≠ x.fst) == false &&
                                                                                              decide ((0 : Int) < (↑(List.length y_1.fst) : Int)) == true) =
                                                                                            true ∧
                                                                                          ((0 : Int) ≤ (0 : Int) ∧ (0 : Int) < (↑(List.length y_1.fst) : Int)) ∧ True) ∧
                                                                                    (((decide (y_2.fst ≠ x.fst) == false && decide (y_2.fst ≠ x.fst) == false) = true →
                                                                                          decide ((0 : Int) < (↑(List.length y_1.fst) : Int)) = true →
                                                                                            (decide (y_2.fst ≠ x.fst) == false && decide (y_2.fst ≠ x.fst) == false &&
                                                                                                  decide ((0 : Int) < (↑(List.length y_1.fst) : Int)) == true) =
                                                                                                true ∧
                                                                                              True) ∧
                                                                                        (((decide (y_2.fst ≠ x.fst) == false && decide (y_2.fst ≠ x.fst) == false) = true →
                                                                                              decide ((0 : Int) < (↑(List.length y_1.fst) : Int)) = true →
                                                                                                (decide (y_2.fst ≠ x.fst) == false && decide (y_2.fst ≠ x.fst) == false &&
                                                                                                      decide ((0 : Int) < (↑(List.length y_1.fst) : Int)) == true) =
                                                                                                    true ∧
                                                                                                  True) ∧
                                                                                            ((decide (y_2.fst ≠ x.fst) = false →
                                                                                                  (decide (y_2.fst ≠ x.fst) == false && decide (y_2.fst ≠ x.fst) == false) = true ∧
                                                                                                    (decide ((0 : Int) < (↑(List.length y_1.fst) : Int)) = true →
                                                                                                        (decide (y_2.fst ≠ x.fst) == false && decide (y_2.fst ≠ x.fst) == false &&
                                                                                                            decide ((0 : Int) < (↑(List.length y_1.fst) : Int)) == true) =
                                                                                                          true) ∧
                                                                                                      True) ∧
                                                                                                ((decide (y_2.fst ≠ x.fst) = false → (decide (y_2.fst ≠ x.fst) == false) = true) ∧
                                                                                                    (((bif decide (y_2.fst ≠ x.fst) then true
                                                                                                            else
                                                                                                              bif decide ((0 : Int) < (↑(List.length y_1.fst) : Int)) then
                                                                                                                decide (List.getD y_1.fst (0 : Nat) (Kd.dft (Kd.int IntKind.u8)) = (0 : Int))
                                                                                                              else false) =
                                                                                                            true →
                                                                                                          false = true) ∧
                                                                                                        ((bif decide (y_2.fst ≠ x.fst) then true
                                                                                                            else
                                                                                                              bif decide ((0 : Int) < (↑(List.length y_1.fst) : Int)) then
                                                                                                                decide (List.getD y_1.fst (0 : Nat) (Kd.dft (Kd.int IntKind.u8)) = (0 : Int))
                                                                                                              else false) =
                                                                                                            false →
                                                                                                          y_1.snd.fst = y_1.snd.fst ∧
                                                                                                            y.fst = y.fst ∧ x.fst = x.fst ∧ y_1.fst = y_1.fst ∧ J (u.fst, ()) ())) ∧
                                                                                                      True) ∧
                                                                                                  True) ∧
                                                                                              True) ∧
                                                                                          True) ∧
                                                                                      True) ∧
                                                                                  True) ∧
                                                                              True) ∧
                                                                          True) ∧
                                                                        True) ∧
                                                                    True) ∧
                                                                  ((decide (y_1.snd.fst = (0 : Int)) == true) = true ∧
                                                                      ((((decide (y_2.fst ≠ x.fst) = false → (decide (y_2.fst ≠ x.fst) == false) = true ∧ True) ∧
                                                                              ((decide (y_2.fst ≠ x.fst) = false → (decide (y_2.fst ≠ x.fst) == false) = true ∧ True) ∧
                                                                                  (((decide (y_2.fst ≠ x.fst) == false && decide (y_2.fst ≠ x.fst) == false) = true →
                                                                                        decide ((0 : Int) < (↑(List.length y_1.fst) : Int)) = true →
                                                                                          (decide (y_2.fst ≠ x.fst) == false && decide (y_2.fst ≠ x.fst) == false &&
                                                                                                decide ((0 : Int) < (↑(List.length y_1.fst) : Int)) == true) =
                                                                                              true ∧
                                                                                            ((0 : Int) ≤ (0 : Int) ∧ (0 : Int) < (↑(List.length y_1.fst) : Int)) ∧ True) ∧
                                                                                      (((decide (y_2.fst ≠ x.fst) == false && decide (y_2.fst ≠ x.fst) == false) = true →
                                                                                            decide ((0 : Int) < (↑(List.length y_1.fst) : Int)) = true →
                                                                                              (decide (y_2.fst ≠ x.fst) == false && decide (y_2.fst ≠ x.fst) == false &&
                                                                                                    decide ((0 : Int) < (↑(List.length y_1.fst) : Int)) == true) =
                                                                                                  true ∧
                                                                                                True) ∧
                                                                                          (((decide (y_2.fst ≠ x.fst) == false && decide (y_2.fst ≠ x.fst) == false) = true →
                                                                                                decide ((0 : Int) < (↑(List.length y_1.fst) : Int)) = true →
                                                                                                  (decide (y_2.fst ≠ x.fst) == false && decide (y_2.fst ≠ x.fst) == false &&
                                                                                                        decide ((0 : Int) < (↑(List.length y_1.fst) : Int)) == true) =
                                                                                                      true ∧
                                                                                                    True) ∧
                                                                                              ((decide (y_2.fst ≠ x.fst) = false →
                                                                                                    (decide (y_2.fst ≠ x.fst) == false && decide (y_2.fst ≠ x.fst) == false) = true ∧
                                                                                                      (decide ((0 : Int) < (↑(List.length y_1.fst) : Int)) = true →
                                                                                                          (decide (y_2.fst ≠ x.fst) == false && decide (y_2.fst ≠ x.fst) == false &&
                                                                                                              decide ((0 : Int) < (↑(List.length y_1.fst) : Int)) == true) =
                                                                                                            true) ∧
                                                                                                        True) ∧
                                                                                                  ((decide (y_2.fst ≠ x.fst) = false → (decide (y_2.fst ≠ x.fst) == false) = true) ∧
                                                                                                      (((bif decide (y_2.fst ≠ x.fst) then true
                                                                                                              else
                                                                                                                bif decide ((0 : Int) < (↑(List.length y_1.fst) : Int)) then
                                                                                                                  decide (List.getD y_1.fst (0 : Nat) (Kd.dft (Kd.int IntKind.u8)) = (0 : Int))
                                                                                                                else false) =
                                                                                                              true →
                                                                                                            false = true) ∧
                                                                                                          ((bif decide (y_2.fst ≠ x.fst) then true
                                                                                                              else
                                                                                                                bif decide ((0 : Int) < (↑(List.length y_1.fst) : Int)) then
                                                                                                                  decide (List.getD y_1.fst (0 : Nat) (Kd.dft (Kd.int IntKind.u8)) = (0 : Int))
                                                                                                                else false) =
                                                                                                              false →
                                                                                                            y_1.snd.fst = y_1.snd.fst ∧
                                                                                                              y.fst = y.fst ∧ x.fst = x.fst ∧ y_1.fst = y_1.fst ∧ J (u.fst, ()) ())) ∧
                                                                                                        True) ∧
                                                                                                    True) ∧
                                                                                                True) ∧
                                                                                            True) ∧
                                                                                        True) ∧
                                                                                    True) ∧
                                                                                True) ∧
                                                                            True) ∧
                                                                          True) ∧
                                                                        True) ∧
                                                                    True) ∧
                                                          True) ∧
                                                  (decide (y_1.snd.fst = (0 : Int)) = !true →
                                                    (((((((((((y_1.snd.fst = y_1.snd.fst ∧ y.fst = y.fst ∧ x.fst = x.fst ∧ y_1.fst = y_1.fst ∧ J (u.fst, ()) ()) ∧ True) ∧ True) ∧ True) ∧ True) ∧ True) ∧
                                                                True) ∧
                                                              True) ∧
                                                            True) ∧
                                                          True) ∧
                                                        True) ∧
                                                      (((((((((((y_1.snd.fst = y_1.snd.fst ∧ y.fst = y.fst ∧ x.fst = x.fst ∧ y_1.fst = y_1.fst ∧ J (u.fst, ()) ()) ∧ True) ∧ True) ∧ True) ∧ True) ∧
                                                                    True) ∧
                                                                  True) ∧
                                                                True) ∧
                                                              True) ∧
                                                            True) ∧
                                                          True) ∧
                                                        True)) ∧
                                                ((decide (y_1.snd.fst = (0 : Int)) = true → (decide (y_1.snd.fst = (0 : Int)) == true) = true ∧ True) ∧
                                                    ((decide (y_1.snd.fst = (0 : Int)) = true →
                                                          (decide (y_1.snd.fst = (0 : Int)) == true) = true ∧
                                                            List.length y_1.fst ≤ (2000000 : Nat) ∧
                                                              (∀ (y_2 : List Int × Unit),
                                                                  Kd.wf (Kd.sl (Kd.int IntKind.u8)) y_2.fst ∧ True →
                                                                    y_2.fst = NatD y_1.fst →
                                                                      (((decide (y_1.snd.fst = (0 : Int)) == true) = true ∧
                                                                            ((decide (y_2.fst ≠ x.fst) = false → (decide (y_2.fst ≠ x.fst) == false) = true ∧ True) ∧
                                                                                ((decide (y_2.fst ≠ x.fst) = false → (decide (y_2.fst ≠ x.fst) == false) = true ∧ True) ∧
                                                                                    (((decide (y_2.fst ≠ x.fst) == false && decide (y_2.fst ≠ x.fst) == false) = true →
                                                                                          decide ((0 : Int) < (↑(List.length y_1.fst) : Int)) = true →
                                                                                            (decide (y_2.fst ≠ x.fst) == false && decide (y_2.fst ≠ x.fst) == false &&
                                                                                                  decide ((0 : Int) < (↑(List.length y_1.fst) : Int)) == true) =
                                                                                                true ∧
                                                                                              ((0 : Int) ≤ (0 : Int) ∧ (0 : Int) < (↑(List.length y_1.fst) : Int)) ∧ True) ∧
                                                                                        (((decide (y_2.fst ≠ x.fst) == false && decide (y_2.fst ≠ x.fst) == false) = true →
                                                                                              decide ((0 : Int) < (↑(List.length y_1.fst) : Int)) = true →
                                                                                                (decide (y_2.fst ≠ x.fst) == false && decide (y_2.fst ≠ x.fst) == false &&
                                                                                                      decide ((0 : Int) < (↑(List.length y_1.fst) : Int)) == true) =
                                                                                                    true ∧
                                                                                                  True) ∧
                                                                                            (((decide (y_2.fst ≠ x.fst) == false && decide (y_2.fst ≠ x.fst) == false) = true →
                                                                                                  decide ((0 : Int) < (↑(List.length y_1.fst) : Int)) = true →
                                                                                                    (decide (y_2.fst ≠ x.fst) == false && decide (y_2.fst ≠ x.fst) == false &&
                                                                                                          decide ((0 : Int) < (↑(List.length y_1.fst) : Int)) == true) =
                                                                                                        true ∧
                                                                                                      True) ∧
                                                                                                ((decide (y_2.fst ≠ x.fst) = false →
                                                                                                      (decide (y_2.fst ≠ x.fst) == false && decide (y_2.fst ≠ x.fst) == false) = true ∧
                                                                                                        (decide ((0 : Int) < (↑(List.length y_1.fst) : Int)) = true →
                                                                                                            (decide (y_2.fst ≠ x.fst) == false && decide (y_2.fst ≠ x.fst) == false &&
                                                                                                                decide ((0 : Int) < (↑(List.length y_1.fst) : Int)) == true) =
                                                                                                              true) ∧
                                                                                                          True) ∧
                                                                                                    ((decide (y_2.fst ≠ x.fst) = false → (decide (y_2.fst ≠ x.fst) == false) = true) ∧
                                                                                                        (((bif decide (y_2.fst ≠ x.fst) then true
                                                                                                                else
                                                                                                                  bif decide ((0 : Int) < (↑(List.length y_1.fst) : Int)) then
                                                                                                                    decide (List.getD y_1.fst (0 : Nat) (Kd.dft (Kd.int IntKind.u8)) = (0 : Int))
                                                                                                                  else false) =
                                                                                                                true →
                                                                                                              false = true) ∧
                                                                                                            ((bif decide (y_2.fst ≠ x.fst) then true
                                                                                                                else
                                                                                                                  bif decide ((0 : Int) < (↑(List.length y_1.fst) : Int)) then
                                                                                                                    decide (List.getD y_1.fst (0 : Nat) (Kd.dft (Kd.int IntKind.u8)) = (0 : Int))
                                                                                                                  else false) =
                                                                                                                false →
                                                                                                              y_1.snd.fst = y_1.snd.fst ∧
                                                                                                                y.fst = y.fst ∧ x.fst = x.fst ∧ y_1.fst = y_1.fst ∧ J (u.fst, ()) ())) ∧
                                                                                                          True) ∧
                                                                                                      True) ∧
                                                                                                  True) ∧
                                                                                              True) ∧
                                                                                          True) ∧
                                                                                      True) ∧
                                                                                  True) ∧
                                                                              True) ∧
                                                                          True) ∧
                                                                        True) ∧
                                                                True) ∧
                                                        (decide (y_1.snd.fst = (0 : Int)) = !true →
                                                          ((((((((((y_1.snd.fst = y_1.snd.fst ∧ y.fst = y.fst ∧ x.fst = x.fst ∧ y_1.fst = y_1.fst ∧ J (u.fst, ()) ()) ∧ True) ∧ True) ∧ True) ∧ True) ∧
                                                                      True) ∧
                                                                    True) ∧
                                                                  True) ∧
                                                                True) ∧
                                                              True) ∧
                                                            True)) ∧
                                                      True) ∧
                                                  True) ∧
                                              True) ∧
                                            ∀ (u : Bool × Unit) (z : Unit),
                                              Kd.wf Kd.bool u.fst ∧ True →
                                                True →
                                                  J u z →
                                                    True ∧
                                                      (∀ (y_2 : Bool × Int × Unit),
                                                          Kd.wf Kd.bool y_2.fst ∧ Kd.wf (Kd.int IntKind.i64) y_2.snd.fst ∧ True →
                                                            (y_2.fst, y_2.snd.fst) = ToBoolD x.fst →
                                                              ∃ (J : Bool × Unit → Unit → Prop),
                                                                ((((decide (y_2.snd.fst = (0 : Int)) = true →
                                                                          (decide (y_2.snd.fst = (0 : Int)) == true) = true ∧
                                                                            True ∧
                                                                              (∀ (y_3 : List Int × Unit),
                                                                                  Kd.wf (Kd.sl (Kd.int IntKind.u8)) y_3.fst ∧ True →
                                                                                    y_3.fst = BoolD y_2.fst →
                                                                                      (((decide (y_2.snd.fst = (0 : Int)) == true) = true ∧
                                                                                            (((decide (y_3.fst ≠ x.fst) = true → false = true) ∧
                                                                                                  (decide (y_3.fst ≠ x.fst) = false →
                                                                                                    y_2.snd.fst = y_2.snd.fst ∧
                                                                                                      y_2.fst = y_2.fst ∧ y.fst = y.fst ∧ x.fst = x.fst ∧ y_1.fst = y_1.fst ∧ J (u.fst, ()) ())) ∧
                                                                                                True) ∧
                                                                                              True) ∧
                                                                                          True) ∧
                                                                                        ((decide (y_2.snd.fst = (0 : Int)) == true) = true ∧
                                                                                            ((((decide (y_3.fst ≠ x.fst) = true → false = true) ∧
                                                                                                    (decide (y_3.fst ≠ x.fst) = false →
                                                                                                      y_2.snd.fst = y_2.snd.fst ∧
                                                                                                        y_2.fst = y_2.fst ∧ y.fst = y.fst ∧ x.fst = x.fst ∧ y_1.fst = y_1.fst ∧ J (u.fst, ()) ())) ∧
                                                                                                  True) ∧
                                                                                                True) ∧
                                                                                              True) ∧
                                                                                          True) ∧
                                                                                True) ∧
                                                                        (decide (y_2.snd.fst = (0 : Int)) = !true →
                                                                          ((((y_2.snd.fst = y_2.snd.fst ∧ y_2.fst = y_2.fst ∧ y.fst = y.fst ∧ x.fst = x.fst ∧ y_1.fst = y_1.fst ∧ J (u.fst, ()) ()) ∧
                                                                                  True) ∧
                                                                                True) ∧
                                                                              True) ∧
                                                                            ((((y_2.snd.fst = y_2.snd.fst ∧ y_2.fst = y_2.fst ∧ y.fst = y.fst ∧ x.fst = x.fst ∧ y_1.fst = y_1.fst ∧ J (u.fst, ()) ()) ∧
                                                                                    True) ∧
                                                                                  True) ∧
                                                                                True) ∧
                                                                              True)) ∧
                                                                      ((decide (y_2.snd.fst = (0 : Int)) = true → (decide (y_2.snd.fst = (0 : Int)) == true) = true ∧ True) ∧
                                                                          ((decide (y_2.snd.fst = (0 : Int)) = true →
                                                                                (decide (y_2.snd.fst = (0 : Int)) == true) = true ∧
                                                                                  True ∧
                                                                                    (∀ (y_3 : List Int × Unit),
                                                                                        Kd.wf (Kd.sl (Kd.int IntKind.u8)) y_3.fst ∧ True →
                                                                                          y_3.fst = BoolD y_2.fst →
                                                                                            (((decide (y_2.snd.fst = (0 : Int)) == true) = true ∧
                                                                                                  ((decide (y_3.fst ≠ x.fst) = true → false = true) ∧
                                                                                                      (decide (y_3.fst ≠ x.fst) = false →
                                                                                                        y_2.snd.fst = y_2.snd.fst ∧
                                                                                                          y_2.fst = y_2.fst ∧ y.fst = y.fst ∧ x.fst = x.fst ∧ y_1.fst = y_1.fst ∧ J (u.fst, ()) ())) ∧
                                                                                                    True) ∧
                                                                                                True) ∧
                                                                                              True) ∧
                                                                                      True) ∧
                                                                              (decide (y_2.snd.fst = (0 : Int)) = !true →
                                                                                (((y_2.snd.fst = y_2.snd.fst ∧ y_2.fst = y_2.fst ∧ y.fst = y.fst ∧ x.fst = x.fst ∧ y_1.fst = y_1.fst ∧ J (u.fst, ()) ()) ∧
                                                                                      True) ∧
                                                                                    True) ∧
                                                                                  True)) ∧
                                                                            True) ∧
                                                                        True) ∧
                                                                    True) ∧
                                                                  ∀ (u : Bool × Unit) (z : Unit),
                                                                    Kd.wf Kd.bool u.fst ∧ True →
                                                                      True →
                                                                        J u z →
                                                                          List.length x.fst ≤ (2000000 : Nat) ∧
                                                                            (∀ (y_3 : Int × Int × Unit),
                                                                                Kd.wf (Kd.int IntKind.u16) y_3.fst ∧ Kd.wf (Kd.int IntKind.i64) y_3.snd.fst ∧ True →
                                                                                  (y_3.fst, y_3.snd.fst) = ToFlagsD x.fst →
                                                                                    ∃ (J : Bool × Unit → Unit → Prop),
                                                                                      ((((decide (y_3.snd.fst = (0 : Int)) = true →
                                                                                                (decide (y_3.snd.fst = (0 : Int)) == true) = true ∧
                                                                                                  True ∧
                                                                                                    (∀ (y_4 : List Int × Unit),
                                                                                                        Kd.wf (Kd.sl (Kd.int IntKind.u8)) y_4.fst ∧ True →
                                                                                                          y_4.fst = FlagsD (Int.toNat y_3.fst) →
                                                                                                            (((decide (y_3.snd.fst = (0 : Int)) == true) = true ∧
                                                                                                                  (((decide (y_4.fst ≠ x.fst) = true → false = true) ∧
                                                                                                                        (decide (y_4.fst ≠ x.fst) = false →
                                                                                                                          y_3.snd.fst = y_3.snd.fst ∧
                                                                                                                            y_3.fst = y_3.fst ∧
                                                                                                                              y_2.fst = y_2.fst ∧
                                                                                                                                y.fst = y.fst ∧ x.fst = x.fst ∧ y_1.fst = y_1.fst ∧ J (u.fst, ()) ())) ∧
                                                                                                                      True) ∧
                                                                                                                    True) ∧
                                                                                                                True) ∧
                                                                                                              ((decide (y_3.snd.fst = (0 : Int)) == true) = true ∧
                                                                                                                  ((((decide (y_4.fst ≠ x.fst) = true → false = true) ∧
                                                                                                                          (decide (y_4.fst ≠ x.fst) = false →
                                                                                                                            y_3.snd.fst = y_3.snd.fst ∧
                                                                                                                              y_3.fst = y_3.fst ∧
                                                                                                                                y_2.fst = y_2.fst ∧
                                                                                                                                  y.fst = y.fst ∧ x.fst = x.fst ∧ y_1.fst = y_1.fst ∧ J (u.fst, ()) ())) ∧
                                                                                                                        True) ∧
                                                                                                                      True) ∧
                                                                                                                    True) ∧
                                                                                                                True) ∧
                                                                                                      True) ∧
                                                                                              (decide (y_3.snd.fst = (0 : Int)) = !true →
                                                                                                ((((y_3.snd.fst = y_3.snd.fst ∧
                                                                                                          y_3.fst = y_3.fst ∧
                                                                                                            y_2.fst = y_2.fst ∧ y.fst = y.fst ∧ x.fst = x.fst ∧ y_1.fst = y_1.fst ∧ J (u.fst, ()) ()) ∧
                                                                                                        True) ∧
                                                                                                      True) ∧
                                                                                                    True) ∧
                                                                                                  ((((y_3.snd.fst = y_3.snd.fst ∧
                                                                                                            y_3.fst = y_3.fst ∧
                                                                                                              y_2.fst = y_2.fst ∧ y.fst = y.fst ∧ x.fst = x.fst ∧ y_1.fst = y_1.fst ∧ J (u.fst, ()) ()) ∧
                                                                                                          True) ∧
                                                                                                        True) ∧
                                                                                                      True) ∧
                                                                                                    True)) ∧
                                                                                            ((decide (y_3.snd.fst = (0 : Int)) = true → (decide (y_3.snd.fst = (0 : Int)) == true) = true ∧ True) ∧
                                                                                                ((decide (y_3.snd.fst = (0 : Int)) = true →
                                                                                                      (decide (y_3.snd.fst = (0 : Int)) == true) = true ∧
                                                                                                        True ∧
                                                                                                          (∀ (y_4 : List Int × Unit),
                                                                                                              Kd.wf (Kd.sl (Kd.int IntKind.u8)) y_4.fst ∧ True →
                                                                                                                y_4.fst = FlagsD (Int.toNat y_3.fst) →
                                                                                                                  (((decide (y_3.snd.fst = (0 : Int)) == true) = true ∧
                                                                                                                        ((decide (y_4.fst ≠ x.fst) = true → false = true) ∧
                                                                                                                            (decide (y_4.fst ≠ x.fst) = false →
                                                                                                                              y_3.snd.fst = y_3.snd.fst ∧
                                                                                                                                y_3.fst = y_3.fst ∧
                                                                                                                                  y_2.fst = y_2.fst ∧
                                                                                                                                    y.fst = y.fst ∧
                                                                                                                                      x.fst = x.fst ∧ y_1.fst = y_1.fst ∧ J (u.fst, ()) ())) ∧
                                                                                                                          True) ∧
                                                                                                                      True) ∧
                                                                                                                    True) ∧
                                                                                                            True) ∧
                                                                                                    (decide (y_3.snd.fst = (0 : Int)) = !true →
                                                                                                      (((y_3.snd.fst = y_3.snd.fst ∧
                                                                                                              y_3.fst = y_3.fst ∧
                                                                                                                y_2.fst = y_2.fst ∧
                                                                                                                  y.fst = y.fst ∧ x.fst = x.fst ∧ y_1.fst = y_1.fst ∧ J (u.fst, ()) ()) ∧
                                                                                                            True) ∧
                                                                                                          True) ∧
                                                                                                        True)) ∧
                                                                                                  True) ∧
                                                                                              True) ∧
                                                                                          True) ∧
                                                                                        ∀ (u : Bool × Unit) (z : Unit),
                                                                                          Kd.wf Kd.bool u.fst ∧ True →
                                                                                            True →
                                                                                              J u z →
                                                                                                List.length x.fst ≤ (2000000 : Nat) ∧
                                                                                                  (∀ (y : List Int × Int × Int × Unit),
                                                                                                      Kd.wf (Kd.sl (Kd.int IntKind.u8)) y.fst ∧
                                                                                                          Kd.wf (Kd.int IntKind.i64) y.snd.fst ∧ Kd.wf (Kd.int IntKind.i64) y.snd.snd.fst ∧ True →
                                                                                                        (y.fst, y.snd.fst, y.snd.snd.fst) = ToBitsD x.fst →
                                                                                                          (decide (y.snd.snd.fst ≠ (0 : Int)) = true →
                                                                                                              (decide ((↑(List.length y.fst) : Int) = (0 : Int)) = true → True) ∧
                                                                                                                (decide ((↑(List.length y.fst) : Int) = (0 : Int)) = true →
                                                                                                                    (decide ((↑(List.length y.fst) : Int) = (0 : Int)) == true) = true ∧ True) ∧
                                                                                                                  (decide ((↑(List.length y.fst) : Int) = (0 : Int)) = true →
                                                                                                                      (decide ((↑(List.length y.fst) : Int) = (0 : Int)) == true) = true) ∧
                                                                                                                    ((bif decide ((↑(List.length y.fst) : Int) = (0 : Int)) then
                                                                                                                            decide (y.snd.fst = (0 : Int))
                                                                                                                          else false) =
                                                                                                                          true →
                                                                                                                        True ∧
                                                                                                                          (∀ (y : List Int × Unit),
                                                                                                                              Kd.wf (Kd.sl (Kd.int IntKind.u8)) y.fst ∧ True →
                                                                                                                                y.fst = BoolD true →
                                                                                                                                  decide (y.fst = bs { data := #[(255 : UInt8)] }) = true) ∧
                                                                                                                            True) ∧
                                                                                                                      ((bif decide ((↑(List.length y.fst) : Int) = (0 : Int)) then
                                                                                                                            decide (y.snd.fst = (0 : Int))
                                                                                                                          else false) =
                                                                                                                          !true →
                                                                                                                        false = true)) ∧
                                                                                                            (decide (y.snd.snd.fst ≠ (0 : Int)) = false →
                                                                                                              List.length y.fst ≤ (1048576 : Nat) ∧
                                                                                                                (∀ (y_4 : List Int × Int × Unit),
                                                                                                                    Kd.wf (Kd.sl (Kd.int IntKind.u8)) y_4.fst ∧
                                                                                                                        Kd.wf (Kd.int IntKind.i64) y_4.snd.fst ∧ True →
                                                                                                                      (y_4.fst, y_4.snd.fst) = BitsD y.fst y.snd.fst →
                                                                                                                        (decide (y_4.snd.fst = (0 : Int)) = true → True) ∧
                                                                                                                          (decide (y_4.snd.fst = (0 : Int)) = true →
                                                                                                                              (decide (y_4.snd.fst = (0 : Int)) == true) = true ∧ True) ∧
                                                                                                                            (decide (y_4.snd.fst = (0 : Int)) = true → True) ∧
                                                                                                                              (decide (y_4.snd.fst = (0 : Int)) = true →
                                                                                                                                  (decide (y_4.snd.fst = (0 : Int)) == true) = true ∧ True) ∧
                                                                                                                                (decide (y_4.snd.fst = (0 : Int)) = true →
                                                                                                                                    (decide (y_4.snd.fst = (0 : Int)) == true) = true ∧
                                                                                                                                      (decide (y_4.snd.fst = (0 : Int)) == true) = true ∧ True) ∧
                                                                                                                                  (decide (y_4.snd.fst = (0 : Int)) = true →
                                                                                                                                      (decide (y_4.snd.fst = (0 : Int)) == true) = true) ∧
                                                                                                                                    ((bif decide (y_4.snd.fst = (0 : Int)) then decide (y_4.fst = x.fst)
                                                                                                                                          else false) =
                                                                                                                                          true →
                                                                                                                                        True ∧
                                                                                                                                          (∀ (y : List Int × Unit),
                                                                                                                                              Kd.wf (Kd.sl (Kd.int IntKind.u8)) y.fst ∧ True →
                                                                                                                                                y.fst = BoolD true →
                                                                                                                                                  decide (y.fst = bs { data := #[(255 : UInt8)] }) =
                                                                                                                                                    true) ∧
                                                                                                                                            True) ∧
                                                                                                                                      ((bif decide (y_4.snd.fst = (0 : Int)) then decide (y_4.fst = x.fst)
                                                                                                                                          else false) =
                                                                                                                                          !true →
                                                                                                                                        false = true)) ∧
                                                                                                                  True)) ∧
                                                                                                    True) ∧
                                                                              True) ∧
                                                        True) ∧
                                  True) ∧
            True
theorem e6 : t6 = Con.vc c6 GL (mkEnv ty [(13, conSem c13), (23, conSem c23), (17, conSem c17), (9, conSem c9), (15, conSem c15), (26, conSem c26), (21, conSem c21), (24, conSem c24), (19, conSem c19), (25, conSem c25)] [] [] [0, 2, 3, 4, 5, 6, 7, 8, 9, 10, 11, 26, 52, 67, 82, 90]) {joins := [4,7,10,13]} Tryd.f6.ntmps Tryd.f6.results.toList (bodyOf Tryd.f6) := by kernel_rfl
theorem k6 : t6 := by
  unfold t6
  rintro ⟨l, _⟩ hx hp
  have hl : l.length ≤ 1048575 := by
    simp [ABulk, AK.bulk, Kd.bulk, sum_ones] at hp
    omega
  have hwf : Kd.wf BY l := hx.1
  try dsimp +instances only [dft_int, dft_sl, dft_str]
  simp only [true_and, and_true, eq_self_iff_true, implies_true, reduceCtorEq, false_implies, true_implies, decide_eq_true_eq, decide_eq_false_iff_not, beq_self_eq_true, Bool.not_eq_true', ne_eq, Decidable.not_not, List.nil_append, List.length_singleton, List.length_cons, List.length_nil, Nat.zero_add, Nat.add_zero, Nat.mul_one, and_self, beq_iff_eq, Bool.not_true, Bool.not_false, Bool.not_eq_false', Bool.cond_false_right, Bool.and_eq_true, imp_self, Bool.not_eq_true, Bool.cond_true_left, Bool.or_eq_true]
  rintro ⟨a, c, _⟩ _ e0
  simp only at e0 ⊢
  refine ⟨fun _ _ => True, ⟨fun h => ⟨h, fun y _ ey => ⟨h, fun hne => hne ?_, fun _ => trivial⟩⟩, fun _ => trivial⟩, ?_⟩
  · subst h
    rw [ey]; exact int_of hwf e0
  rintro ⟨u, _⟩ _ _ _
  refine ⟨by omega, ?_⟩
  rintro ⟨t, c1, _⟩ _ e1
  simp only at e1 ⊢
  have htl := natT_le e1
  refine ⟨fun _ _ => True, ⟨fun h => ⟨h, by omega, fun y _ ey => ?_⟩, fun _ => trivial⟩, ?_⟩
  · subst h
    obtain ⟨hn, hh⟩ := nat_of e1
    have ey : y.1 = l := ey.trans hn
    exact ⟨rfl, fun h1 h2 => ⟨⟨h1, h2⟩, by omega, by omega⟩, fun h1 h2 => ⟨h1, h2⟩, fun h1 h2 => ⟨h1, h2⟩, fun h1 => ⟨h1, fun h2 => ⟨h1, h2⟩⟩, fun h => h.elim (fun h => h ey) (fun h => hh (by omega) h.2), fun _ => trivial⟩
  rintro ⟨u, _⟩ _ _ _ ⟨b, c2, _⟩ _ e2
  simp only at e2 ⊢
  refine ⟨fun _ _ => True, ⟨fun h => ⟨h, fun y _ ey => ⟨h, fun hne => hne ?_, fun _ => trivial⟩⟩, fun _ => trivial⟩, ?_⟩
  · subst h
    rw [ey]; exact bool_of e2
  rintro ⟨u, _⟩ _ _ _
  refine ⟨by omega, ?_⟩
  rintro ⟨f, c3, _⟩ _ e3
  simp only at e3 ⊢
  refine ⟨fun _ _ => True, ⟨fun h => ⟨h, fun y _ ey => ⟨h, fun hne => hne ?_, fun _ => trivial⟩⟩, fun _ => trivial⟩, ?_⟩
  · subst h
    rw [ey]; exact flags_of hwf e3
  rintro ⟨u, _⟩ _ _ _
  refine ⟨by omega, ?_⟩
  rintro ⟨bits, un, c4, _⟩ _ e4
  simp only at e4 ⊢
  rcases bits_spec e4 with ⟨h1, h2, h3⟩ | ⟨h1, h2, h3⟩
  · subst h1
    refine ⟨fun h => absurd rfl h, fun _ => ⟨?_, ?_⟩⟩
    · have := congrArg List.length h3
      simp at this
      omega
    rintro ⟨z, c5, _⟩ _ e5
    simp only at e5 ⊢
    rw [BitsD, if_pos h2, ← h3] at e5
    cases e5
    refine ⟨fun _ y _ ey => ey, fun h => by simp at h⟩
  · subst h1 h2 h3
    exact ⟨fun _ => ⟨fun _ y _ ey => ey, fun h => by simp at h⟩, fun h => by simp at h⟩
theorem h6 : c6.ok Tryd.prog GL 6 := con_ok (H := {joins := [4,7,10,13]}) (mkEnv_ok (gl := GL) (l := [(13, conSem c13), (23, conSem c23), (17, conSem c17), (9, conSem c9), (15, conSem c15), (26, conSem c26), (21, conSem c21), (24, conSem c24), (19, conSem c19), (25, conSem c25)]) (q := []) (d := []) _ tyOk (by kernel_rfl) ⟨h13.call, h23.call, h17.call, h9.call, h15.call, h26.call, h21.call, h24.call, h19.call, h25.call, trivial⟩ trivial trivial) (by kernel_rfl) (by kernel_rfl) (Eq.mp e6 k6)

end Go.Proofs.YtgikinbkhhfgiaaDoor
