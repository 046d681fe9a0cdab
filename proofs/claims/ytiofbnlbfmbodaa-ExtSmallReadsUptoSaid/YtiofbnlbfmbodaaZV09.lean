/- Texts of a verified walk, led together: NumB, ExtR, Host, HostG, ExtN, Within, WithinB, ExtX, ExtB. -/
import Derived.Test.YtiofbnlbfmbodaaZV07
import Derived.Test.YtiofbnlbfmbodaaZV08
import Derived.Test.YtiofbnlbfmbodaaZV06
import Derived.Lib.BitFns
set_option linter.unusedVariables false
set_option linter.unusedSimpArgs false
section
namespace Go.Pl
open Go.Vc
set_option linter.unusedVariables false
set_option linter.unusedSimpArgs false
theorem emod_step (x P : Int) (hP : 0 < P) : x % (P * 256) = (x / P) % 256 * P + x % P := by
  have h1 := Int.emod_add_mul_ediv x P
  have h2 := Int.emod_add_mul_ediv (x / P) 256
  have h3 := Int.emod_nonneg x (Int.ne_of_gt hP)
  have h4 := Int.emod_lt_of_pos x hP
  have h5 := Int.emod_nonneg (x / P) (show (256 : Int) ≠ 0 by decide)
  have h6 := Int.emod_lt_of_pos (x / P) (show (0 : Int) < 256 by decide)
  generalize x % P = r at *
  generalize (x / P) % 256 = b at *
  generalize (x / P) / 256 = m at *
  have e : x = (b * P + r) + (P * 256) * m := by
    rw [← h1, ← h2, Int.mul_add, Int.mul_comm P b, ← Int.mul_assoc]
    omega
  rw [e, Int.add_mul_emod_self_left]
  have h7 : b * P ≤ 255 * P := Int.mul_le_mul_of_nonneg_right (by omega) (by omega)
  have h8 : 0 ≤ b * P := Int.mul_nonneg h5 (by omega)
  exact Int.emod_eq_of_lt (by omega) (by omega)
theorem fold_low (x : Int) : ∀ (k : Nat) (c : Int), foldB c (low x k) = c * 256 ^ k + x % 256 ^ k
  | 0, c => by simp [foldB, low]
  | k + 1, c => by
    have e : foldB c (low x (k + 1)) = foldB (c * 256 + (x / 256 ^ k) % 256) (low x k) := rfl
    rw [e, fold_low x k, Int.pow_succ, emod_step x (256 ^ k) (Int.pow_pos (by decide)), Int.add_mul, Int.mul_comm (256 ^ k) 256, Int.mul_assoc]
    omega
theorem wide_spec (x : Int) (h : fit x 8) : ∃ w, wide x 1 7 = w ∧ 1 ≤ w ∧ w ≤ 8 ∧ fit x w ∧ (w = 1 ∨ ¬ fit x (w - 1)) := by
  simp only [wide]
  simp only [fit] at h ⊢
  repeat' split
  all_goals first
    | exact ⟨1, rfl, by decide, by decide, by simp at *; omega, .inl rfl⟩
    | exact ⟨2, rfl, by decide, by decide, by simp at *; omega, .inr (by simp at *; omega)⟩
    | exact ⟨3, rfl, by decide, by decide, by simp at *; omega, .inr (by simp at *; omega)⟩
    | exact ⟨4, rfl, by decide, by decide, by simp at *; omega, .inr (by simp at *; omega)⟩
    | exact ⟨5, rfl, by decide, by decide, by simp at *; omega, .inr (by simp at *; omega)⟩
    | exact ⟨6, rfl, by decide, by decide, by simp at *; omega, .inr (by simp at *; omega)⟩
    | exact ⟨7, rfl, by decide, by decide, by simp at *; omega, .inr (by simp at *; omega)⟩
    | exact ⟨8, rfl, by decide, by decide, by simp at *; omega, .inr (by simp at *; omega)⟩
theorem val_low (x : Int) (w : Nat) (h1 : 1 ≤ w) (h8 : w ≤ 8) (hf : fit x w) : nvalD (low x w) = x := by
  have e : ∀ l : List Int, nvalD l = foldB (if 128 ≤ l.headD 0 then -1 else 0) l := fun _ => rfl
  rw [e, fold_low]
  by_cases hc : 128 ≤ (low x w).headD 0
  . rw [if_pos hc]
    match w, h1, h8 with
    | 1, _, _ | 2, _, _ | 3, _, _ | 4, _, _ | 5, _, _ | 6, _, _ | 7, _, _ | 8, _, _ =>
      simp [low, fit] at hf hc ⊢
      omega
  . rw [if_neg hc]
    match w, h1, h8 with
    | 1, _, _ | 2, _, _ | 3, _, _ | 4, _, _ | 5, _, _ | 6, _, _ | 7, _, _ | 8, _, _ =>
      simp [low, fit] at hf hc ⊢
      omega
theorem short_low (x : Int) (w : Nat) (h1 : 1 ≤ w) (h8 : w ≤ 8) (hf : fit x w) (hn : w = 1 ∨ ¬ fit x (w - 1)) : ShortD (low x w) = true := by
  match w, h1, h8 with
  | 1, _, _ => rfl
  | 2, _, _ | 3, _, _ | 4, _, _ | 5, _, _ | 6, _, _ | 7, _, _ | 8, _, _ =>
    simp only [low, ShortD, fit, Bool.not_eq_true', Bool.or_eq_false_iff, Bool.and_eq_false_iff, decide_eq_false_iff_not] at hf hn ⊢
    simp at *
    omega
theorem int_back {x : Int} (h : InR .i64 x) : ToIntD (IntD x) = (x, 0) := by
  obtain ⟨w, e, h1, h8, hf, hn⟩ := wide_spec x (fit8 h)
  have hl : (low x w).length = w := nlow_len x w
  rw [IntD, e, ToIntD, if_neg (by rw [short_low x w h1 h8 hf hn]; decide), if_neg (by omega), val_low x w h1 h8 hf]
theorem flags1 (x : Nat) (h0 : x ≠ 0) (h : x < 256) : ToFlagsD [8 - (lastb x 8 : Int), (prev x 8 : Int)] = ((x : Int), 0) := by
  have key : ∀ x : Fin 256, x.val ≠ 0 → ToFlagsD [8 - (lastb x.val 8 : Int), (prev x.val 8 : Int)] = ((x.val : Int), 0) := by decide +kernel
  exact key ⟨x, h⟩ h0
theorem prev2 (x : Nat) (h : x < 256) : prev (prev x 8) 8 = x := by
  have key : ∀ x : Fin 256, prev (prev x.val 8) 8 = x.val := by decide +kernel
  exact key ⟨x, h⟩
theorem flags2 (q : Int) (x : Nat) (h0 : x ≠ 0) (h : x < 256) : ToFlagsD [8 - (lastb x 8 : Int), q, (prev x 8 : Int)] = ((prev q.toNat 8 : Int) + 256 * (x : Int), 0) := by
  have key : ∀ x : Fin 256, x.val ≠ 0 → FitsD [(prev x.val 8 : Int)] (8 - (lastb x.val 8 : Int)) = true ∧ ¬ ((prev x.val 8 : Int) / 2 ^ (8 - (lastb x.val 8 : Int)).toNat) % 2 = 0 := by decide +kernel
  obtain ⟨k1, k2⟩ := key ⟨x, h⟩ h0
  simp only at k1 k2
  have hb : ToBitsD [8 - (lastb x 8 : Int), q, (prev x 8 : Int)] = ([q, (prev x 8 : Int)], 8 - (lastb x 8 : Int), 0) := by
    rw [ToBitsD, if_pos]
    have : FitsD [q, (prev x 8 : Int)] (8 - (lastb x 8 : Int)) = FitsD [(prev x 8 : Int)] (8 - (lastb x 8 : Int)) := by simp [FitsD]
    rw [this]; exact k1
  rw [ToFlagsD, hb]
  simp only
  rw [if_neg (by simp), if_neg (fun hc => k2 hc.2), if_neg (by simp), flagsD, Int.toNat_natCast, prev2 x h]
theorem flags_back (f : Int) (h0 : 0 ≤ f) (h1 : f ≤ 65535) : ToFlagsD (FlagsD f.toNat) = (f, 0) := by
  unfold FlagsD
  split
  . rename_i h
    have : f = 0 := by omega
    subst this
    decide
  . rename_i hz
    split
    . rename_i h
      rw [flags1 _ hz h]
      congr 1
      omega
    . rename_i h
      rw [flags2 _ (f.toNat / 256) (by omega) (by omega), Int.toNat_natCast, prev2 _ (by omega)]
      congr 1
      omega
theorem byte_mem {l : List Int} (h : Kd.wf BY l) : ∀ b ∈ l, 0 ≤ b ∧ b ≤ 255 := fun b hb => by
  have h2 : InR .u8 b := h.2 b hb
  simpa [InR, IntKind.min, IntKind.max, IntKind.signed, IntKind.bits] using h2
theorem low_fold : ∀ (l : List Int) (c : Int), (∀ b ∈ l, 0 ≤ b ∧ b ≤ 255) → low (foldB c l) l.length = l
  | [], _, _ => rfl
  | b :: r, c, h => by
    have hr : ∀ b ∈ r, 0 ≤ b ∧ b ≤ 255 := fun x hx => h x (List.mem_cons_of_mem _ hx)
    have hb := h b (by simp)
    have e : foldB c (b :: r) = foldB (c * 256 + b) r := rfl
    have hbd := fold_bnd r (c * 256 + b) hr
    have hP : (0 : Int) < 256 ^ r.length := Int.pow_pos (by decide)
    have hd : foldB (c * 256 + b) r / 256 ^ r.length = c * 256 + b := by
      have : foldB (c * 256 + b) r = (foldB (c * 256 + b) r - (c * 256 + b) * 256 ^ r.length) + (c * 256 + b) * 256 ^ r.length := by omega
      rw [this, Int.add_mul_ediv_right _ _ (by omega), Int.ediv_eq_zero_of_lt (by omega) (by omega), Int.zero_add]
    rw [e, List.length_cons, low, hd, low_fold r _ hr]
    congr 1
    omega
theorem ngetD_drop (l : List Int) (i j : Nat) : (l.drop i).getD j 0 = l.getD (i + j) 0 := by
  rw [List.getD_eq_getElem?_getD, List.getElem?_drop, ← List.getD_eq_getElem?_getD]
theorem fit_val {a : Int} {r : List Int} (h : Kd.wf BY (a :: r)) (hr : r.length ≤ 7) : fit (foldB (sx a) r) (r.length + 1) := by
  have hb := sx_bnd (head_bnd h)
  have h1 := fold_bnd r (sx a) (byte_mem (tail_wf h))
  have hp0 : (0 : Int) < 256 ^ r.length := Int.pow_pos (by decide)
  have h3 : -128 * 256 ^ r.length ≤ sx a * 256 ^ r.length := Int.mul_le_mul_of_nonneg_right hb.1 (by omega)
  have h4 : sx a * 256 ^ r.length ≤ 127 * 256 ^ r.length := Int.mul_le_mul_of_nonneg_right hb.2 (by omega)
  generalize foldB (sx a) r = x at h1 ⊢
  generalize sx a * 256 ^ r.length = y at h1 h3 h4
  generalize r.length = n at *
  match n, hr with
  | 0, _ | 1, _ | 2, _ | 3, _ | 4, _ | 5, _ | 6, _ | 7, _ => simp [fit] at *; omega
theorem int_of {l : List Int} {a : Int} (hw : Kd.wf BY l) (h : (a, (0 : Int)) = ToIntD l) : IntD a = l := by
  unfold ToIntD at h
  split at h
  . cases h
  . rename_i hs
    split at h
    . cases h
    . rename_i h8
      have ha : a = nvalD l := by cases h; rfl
      rcases l with _ | ⟨x, r⟩
      . exact absurd rfl hs
      . have hr : r.length ≤ 7 := by simp at h8; omega
        have hx := head_bnd hw
        rw [val_cons r hx] at ha
        have hfit := fit_val hw hr
        rw [← ha] at hfit
        have hlow : low a (r.length + 1) = x :: r := by
          have e : a = foldB (if 128 ≤ x then -1 else 0) (x :: r) := by
            rw [ha]
            show _ = foldB ((if 128 ≤ x then -1 else 0) * 256 + x) r
            congr 1
            unfold sx
            split <;> omega
          have := low_fold (x :: r) (if 128 ≤ x then -1 else 0) (byte_mem hw)
          rw [← e] at this
          exact this
        have hwide : wide a 1 7 = r.length + 1 := by
          refine wide_eq a _ (by omega) (by omega) hfit ?_
          rcases r with _ | ⟨y, r⟩
          . exact .inl rfl
          . right
            simp only [List.length_cons] at hr hfit hlow ⊢
            have hst := fit_step a (8 - (r.length + 1 + 1)) (by omega) (by rw [show 8 - (8 - (r.length + 1 + 1)) = r.length + 1 + 1 by omega]; exact hfit)
            have hd := low_drop a (8 - (r.length + 1 + 1)) (by omega)
            rw [show 8 - (8 - (r.length + 1 + 1)) = r.length + 1 + 1 by omega, hlow] at hd
            have g0 : (low a 8).getD (8 - (r.length + 1 + 1)) 0 = x := by
              have := ngetD_drop (low a 8) (8 - (r.length + 1 + 1)) 0
              rw [hd] at this
              exact this.symm
            have g1 : (low a 8).getD (8 - (r.length + 1 + 1) + 1) 0 = y := by
              have := ngetD_drop (low a 8) (8 - (r.length + 1 + 1)) 1
              rw [hd] at this
              exact this.symm
            rw [g0, g1, show 7 - (8 - (r.length + 1 + 1)) = r.length + 1 + 1 - 1 by omega] at hst
            intro hc
            have h5 := hst.2 hc
            simp only [ShortD, Bool.not_eq_false', Bool.or_eq_true, Bool.and_eq_true, decide_eq_true_eq] at hs
            exact hs h5
        rw [IntD, hwide, hlow]
theorem bool_of {l : List Int} {b : Bool} (h : (b, (0 : Int)) = ToBoolD l) : BoolD b = l := by
  unfold ToBoolD at h
  split at h
  . rename_i e; cases h; exact e.symm
  . split at h
    . rename_i e; cases h; exact e.symm
    . cases h
theorem flags_of {l : List Int} {f : Int} (hw : Kd.wf BY l) (h : (f, (0 : Int)) = ToFlagsD l) : FlagsD f.toNat = l := by
  rcases l with _ | ⟨u, bits⟩
  . cases h
  . have hwb := tail_wf hw
    rw [ToFlagsD] at h
    by_cases hf : FitsD bits u = true
    . rw [ToBitsD, if_pos hf] at h
      simp only at h
      rw [if_neg (by simp)] at h
      obtain ⟨h0, h7, he, hz⟩ := fits_rng hf
      split at h
      . cases h
      . rename_i hc
        split at h
        . cases h
        . rename_i h2
          have hfv : f = flagsD bits := by cases h; rfl
          rcases bits with _ | ⟨a, _ | ⟨b, _ | ⟨c, r⟩⟩⟩
          . have := he rfl
            subst this
            rw [hfv]
            rfl
          . have ha := head_bnd hwb
            have hz := hz (by simp)
            have hc : ¬ (a / 2 ^ u.toNat) % 2 = 0 := fun hh => hc ⟨by simp, hh⟩
            have key : ∀ a : Fin 256, ∀ u : Fin 8, (a.val : Int) % 2 ^ u.val = 0 → ¬ ((a.val : Int) / 2 ^ u.val) % 2 = 0 → FlagsD (prev a.val 8) = [(u.val : Int), (a.val : Int)] := by decide +kernel
            have hk := key ⟨a.toNat, by omega⟩ ⟨u.toNat, by omega⟩
            simp only [Int.toNat_of_nonneg ha.1, Int.toNat_of_nonneg h0] at hk
            rw [hfv]
            exact hk hz hc
          . have ha := head_bnd hwb
            have hb := head_bnd (tail_wf hwb)
            have hz := hz (by simp)
            have hc : ¬ (b / 2 ^ u.toNat) % 2 = 0 := fun hh => hc ⟨by simp, hh⟩
            have key : ∀ a : Fin 256, ∀ u : Fin 8, (a.val : Int) % 2 ^ u.val = 0 → ¬ ((a.val : Int) / 2 ^ u.val) % 2 = 0 → 1 ≤ prev a.val 8 ∧ 8 - (lastb (prev a.val 8) 8 : Int) = (u.val : Int) ∧ (prev (prev a.val 8) 8 : Int) = (a.val : Int) := by decide +kernel
            have hk := key ⟨b.toNat, by omega⟩ ⟨u.toNat, by omega⟩
            simp only [Int.toNat_of_nonneg hb.1, Int.toNat_of_nonneg h0] at hk
            obtain ⟨k1, k2, k3⟩ := hk hz hc
            have la := prev_lt a.toNat (by omega)
            have lb := prev_lt b.toNat (by omega)
            have e : f.toNat = prev a.toNat 8 + 256 * prev b.toNat 8 := by
              rw [hfv, flagsD]
              omega
            have e1 : f.toNat / 256 = prev b.toNat 8 := by omega
            have e2 : f.toNat % 256 = prev a.toNat 8 := by omega
            rw [FlagsD, if_neg (by omega), if_neg (by omega), e1, e2, k2, k3, prev2 _ (by omega), Int.toNat_of_nonneg ha.1]
          . simp at h2
    . rw [ToBitsD, if_neg hf] at h
      simp at h
end Go.Pl
end
section
namespace Go.Pl
open Go.Vc
set_option linter.unusedVariables false
set_option linter.unusedSimpArgs false
def contD (b : List Int) (t : Int) : List Int × Bool := if (oneD b).2 = 0 ∧ (oneD b).1.1 = t then ((oneD b).1.2, true) else ([], false)
theorem cont_put {t : Int} {c : List Int} (ht : isTagD t = true) (hc : c.length ≤ 16777215) : contD (putB (t, c)) t = (c, true) := by
  rw [contD, one_put (x := (t, c)) ht hc]; simp
theorem cont_of {b : List Int} {t : Int} (hb : Bys b) (h : (contD b t).2 = true) : putB (t, (contD b t).1) = b := by
  unfold contD at h ⊢
  split at h
  . rename_i c
    rw [if_pos c]
    have := (one_back hb c.1).2.2
    rw [← c.2]
    exact this.symm
  . cases h
def ToNumberD (b : List Int) : Int × Int :=
  if (contD b 2).2 = true ∧ (ToIntD (contD b 2).1).2 = 0 ∧ 0 ≤ (ToIntD (contD b 2).1).1 then ((ToIntD (contD b 2).1).1, 0) else (0, 150)
def ToReasonD (b : List Int) : Int × Int :=
  if (contD b 10).2 = true ∧ (ToIntD (contD b 10).1).2 = 0 ∧ reasonK (ToIntD (contD b 10).1).1 = true then ((ToIntD (contD b 10).1).1, 0) else (0, 150)
def ToUsageD (b : List Int) : Int × Int :=
  if (contD b 3).2 = true ∧ (ToFlagsD (contD b 3).1).2 = 0 ∧ (ToFlagsD (contD b 3).1).1 ≠ 0 ∧ (ToFlagsD (contD b 3).1).1 < 512 then ((ToFlagsD (contD b 3).1).1, 0) else (0, 150)
def zero20 : List Int := [0, 0, 0, 0, 0, 0, 0, 0, 0, 0, 0, 0, 0, 0, 0, 0, 0, 0, 0, 0]
def ToSubjectD (b : List Int) : List Int × Int :=
  if (contD b 4).2 = true ∧ (contD b 4).1.length = 20 then ((contD b 4).1, 0) else (zero20, 150)
def ToIssuerD (b : List Int) : List Int × Int :=
  if (contD b 48).2 = true ∧ (contD (contD b 48).1 128).2 = true ∧ (contD (contD b 48).1 128).1.length = 20 then ((contD (contD b 48).1 128).1, 0) else (zero20, 150)
theorem tag_ext : isTagD 48 = true ∧ isTagD 2 = true ∧ isTagD 3 = true ∧ isTagD 4 = true ∧ isTagD 10 = true ∧ isTagD 128 = true ∧ isTagD 1 = true := by decide
theorem number_back {n : Int} {b : List Int} (hn : InR .i64 n) (h : NumberD n = (b, 0)) : ToNumberD b = (n, 0) := by
  unfold NumberD at h
  split at h
  . cases h
  . rename_i c
    obtain ⟨rfl, _⟩ := Prod.mk.inj h
    have hl := int_len n
    rw [ToNumberD, cont_put tag_ext.2.1 (by omega), int_back hn, if_pos ⟨rfl, rfl, by simp only; omega⟩]
theorem reason_back {n : Int} {b : List Int} (h : ReasonD n = (b, 0)) : ToReasonD b = (n, 0) := by
  unfold ReasonD at h
  split at h
  . cases h
  . rename_i c
    obtain ⟨rfl, _⟩ := Prod.mk.inj h
    have c : reasonK n = true := by cases hr : reasonK n <;> simp_all
    have hn : InR .i64 n := by
      simp only [reasonK, Bool.and_eq_true, decide_eq_true_eq] at c
      simp [InR, IntKind.min, IntKind.max, IntKind.signed, IntKind.bits]; omega
    have hl := int_len n
    rw [ToReasonD, cont_put tag_ext.2.2.2.2.1 (by omega), int_back hn, if_pos ⟨rfl, rfl, c⟩]
theorem usage_back {n : Int} {b : List Int} (h0 : 0 ≤ n) (h : UsageD n = (b, 0)) : ToUsageD b = (n, 0) := by
  unfold UsageD at h
  split at h
  . cases h
  . rename_i c
    obtain ⟨rfl, _⟩ := Prod.mk.inj h
    have hl := flags_len n.toNat
    rw [ToUsageD, cont_put tag_ext.2.2.1 (by omega), flags_back n h0 (by omega), if_pos ⟨rfl, rfl, by simp only; omega, by simp only; omega⟩]
theorem subject_back {k : List Int} (h : k.length = 20) : ToSubjectD (SubjectD k) = (k, 0) := by
  rw [ToSubjectD, SubjectD, cont_put tag_ext.2.2.2.1 (by omega), if_pos ⟨rfl, h⟩]
theorem issuer_back {k : List Int} (h : k.length = 20) : ToIssuerD (IssuerD k) = (k, 0) := by
  have hl : (putB (128, k)).length = 22 := by rw [put_small (x := (128, k)) (by simp only; omega)]; simp only; omega
  rw [ToIssuerD, IssuerD, cont_put tag_ext.1 (by omega), cont_put tag_ext.2.2.2.2.2.1 (by omega), if_pos ⟨rfl, rfl, h⟩]
theorem cont_bys {b : List Int} {t : Int} (hb : Bys b) : Bys (contD b t).1 := by
  by_cases h : (contD b t).2 = true
  . have e := cont_of hb h
    intro x hx
    refine hb x ?_
    rw [← e, putB]
    exact List.mem_cons_of_mem _ (List.mem_append_right _ hx)
  . unfold contD at h ⊢
    split
    . rename_i c; rw [if_pos c] at h; exact absurd rfl h
    . intro x hx; cases hx
theorem cont_wf {b : List Int} {t : Int} (hb : Kd.wf BY b) : Kd.wf BY (contD b t).1 := by
  have hby : Bys b := sl_bys hb
  have hl : (contD b t).1.length ≤ b.length := by
    by_cases h : (contD b t).2 = true
    . have e := congrArg List.length (cont_of hby h)
      rw [put_len] at e
      simp only at e
      omega
    . unfold contD at h ⊢
      split
      . rename_i c; rw [if_pos c] at h; exact absurd rfl h
      . simp
  refine ⟨Nat.le_trans hl hb.1, fun x hx => ?_⟩
  have h2 := cont_bys (t := t) hby x hx
  show InR .u8 x
  simp [InR, IntKind.min, IntKind.max, IntKind.signed, IntKind.bits]
  omega
theorem number_once {b : List Int} {n : Int} (hb : Kd.wf BY b) (h : ToNumberD b = (n, 0)) : NumberD n = (b, 0) := by
  unfold ToNumberD at h
  split at h
  . rename_i c
    obtain ⟨rfl, _⟩ := Prod.mk.inj h
    rw [NumberD, if_neg (by omega), int_of (cont_wf hb) (Prod.ext rfl c.2.1.symm), cont_of (sl_bys hb) c.1]
  . cases h
theorem reason_once {b : List Int} {n : Int} (hb : Kd.wf BY b) (h : ToReasonD b = (n, 0)) : ReasonD n = (b, 0) := by
  unfold ToReasonD at h
  split at h
  . rename_i c
    obtain ⟨rfl, _⟩ := Prod.mk.inj h
    rw [ReasonD, if_neg (by rw [c.2.2]; decide), int_of (cont_wf hb) (Prod.ext rfl c.2.1.symm), cont_of (sl_bys hb) c.1]
  . cases h
theorem usage_once {b : List Int} {n : Int} (hb : Kd.wf BY b) (h : ToUsageD b = (n, 0)) : UsageD n = (b, 0) := by
  unfold ToUsageD at h
  split at h
  . rename_i c
    obtain ⟨rfl, _⟩ := Prod.mk.inj h
    rw [UsageD, if_neg (by omega), flags_of (cont_wf hb) (Prod.ext rfl c.2.1.symm), cont_of (sl_bys hb) c.1]
  . cases h
theorem subject_once {b k : List Int} (hb : Kd.wf BY b) (h : ToSubjectD b = (k, 0)) : SubjectD k = b ∧ k.length = 20 := by
  unfold ToSubjectD at h
  split at h
  . rename_i c
    obtain ⟨rfl, _⟩ := Prod.mk.inj h
    exact ⟨cont_of (sl_bys hb) c.1, c.2⟩
  . cases h
theorem issuer_once {b k : List Int} (hb : Kd.wf BY b) (h : ToIssuerD b = (k, 0)) : IssuerD k = b ∧ k.length = 20 := by
  unfold ToIssuerD at h
  split at h
  . rename_i c
    obtain ⟨rfl, _⟩ := Prod.mk.inj h
    refine ⟨?_, c.2.2⟩
    rw [IssuerD, cont_of (cont_bys (sl_bys hb)) c.2.1, cont_of (sl_bys hb) c.1]
  . cases h
def basE (l : List EltT) : (Bool × Int) × Bool :=
  if l = [] then ((false, -1), true) else if l = [(1, [255])] then ((true, -1), true)
  else if l.length = 2 ∧ l.getD 0 edft = (1, [255]) ∧ (l.getD 1 edft).1 = 2 ∧ (ToIntD (l.getD 1 edft).2).2 = 0 ∧ 0 ≤ (ToIntD (l.getD 1 edft).2).1 ∧ (ToIntD (l.getD 1 edft).2).1 ≤ 100 then ((true, (ToIntD (l.getD 1 edft).2).1), true) else ((false, 0), false)
def ToBasicD (b : List Int) : (Bool × Int) × Int :=
  if (contD b 48).2 = true ∧ (allD (contD b 48).1).2.2 = 0 ∧ (basE (allD (contD b 48).1).1).2 = true then ((basE (allD (contD b 48).1).1).1, 0) else ((false, 0), 150)
def basL (v : Bool × Int) : List EltT := (if v.1 = true then [(1, [255])] else []) ++ (if v.2 = -1 then [] else [(2, IntD v.2)])
theorem bas_flat (v : Bool × Int) : caB v.1 ++ pathB v.2 = (basL v).flatMap putB := by
  obtain ⟨c, n⟩ := v
  cases c <;> by_cases h : n = -1 <;> simp [caB, pathB, basL, h]
theorem basic_back {v : Bool × Int} {b : List Int} (h : BasicD v = (b, 0)) : ToBasicD b = (v, 0) := by
  unfold BasicD at h
  split at h
  . cases h
  . rename_i c
    obtain ⟨rfl, _⟩ := Prod.mk.inj h
    obtain ⟨ca, n⟩ := v
    simp only at c
    have hi := int_len n
    have hc1 := ca_len ca
    have hc2 := path_len n
    have hok : ∀ x ∈ basL (ca, n), isTagD x.1 = true ∧ x.2.length ≤ 16777215 := by
      intro x hx
      simp only [basL] at hx
      rcases List.mem_append.1 hx with h | h
      . split at h
        . simp only [List.mem_cons, List.not_mem_nil, or_false] at h
          subst h
          exact ⟨tag_ext.2.2.2.2.2.2, by decide⟩
        . cases h
      . split at h
        . cases h
        . simp only [List.mem_cons, List.not_mem_nil, or_false] at h
          subst h
          exact ⟨tag_ext.2.1, by simp only; omega⟩
    have ha := all_flat hok
    have hle : (caB (ca, n).1 ++ pathB (ca, n).2).length ≤ 16777215 := by
      show (caB ca ++ pathB n).length ≤ 16777215
      rw [List.length_append]; omega
    rw [ToBasicD, cont_put tag_ext.1 hle, bas_flat, ha]
    have key : basE (basL (ca, n)) = ((ca, n), true) := by
      cases ca with
      | false =>
        have hn : n = -1 := by
          by_cases e : n = -1
          . exact e
          . exact absurd (.inr (.inr ⟨rfl, e⟩)) c
        subst hn
        rfl
      | true =>
        by_cases e : n = -1
        . subst e; rfl
        . have hr := int_back (x := n) (by simp [InR, IntKind.min, IntKind.max, IntKind.signed, IntKind.bits]; omega)
          have hL : basL (true, n) = [(1, [255]), (2, IntD n)] := by simp [basL, e]
          rw [hL, basE, if_neg (by simp), if_neg (by simp), if_pos]
          . simp only [List.getD_cons_succ, List.getD_cons_zero, hr]
          . simp only [List.getD_cons_succ, List.getD_cons_zero, hr]
            exact ⟨by first | rfl | trivial, by first | rfl | trivial, by first | rfl | trivial, by first | rfl | trivial, by omega, by omega⟩
    rw [key]
    exact if_pos ⟨rfl, rfl, rfl⟩
theorem two_el {l : List EltT} (h : l.length = 2) : l = [l.getD 0 edft, l.getD 1 edft] := by
  match l, h with
  | [a, b], _ => rfl
theorem basic_once {b : List Int} {v : Bool × Int} (hb : Kd.wf BY b) (h : ToBasicD b = (v, 0)) : BasicD v = (b, 0) := by
  unfold ToBasicD at h
  split at h
  . rename_i c
    obtain ⟨c1, c2, c3⟩ := c
    have hv := (Prod.mk.inj h).1
    have hw := cont_wf (t := 48) hb
    have hf := flat_all (sl_bys hw) c2
    have hbs := cont_of (sl_bys hb) c1
    have hout : (BasicD v) = (putB (48, (basL v).flatMap putB), 0) ∧ basL v = (allD (contD b 48).1).1 := by
      unfold basE at c3 hv
      split at c3
      . rename_i e
        rw [if_pos e] at hv
        subst hv
        exact ⟨by rw [← bas_flat]; rfl, by rw [e]; rfl⟩
      . rename_i e
        rw [if_neg e] at hv
        split at c3
        . rename_i e2
          rw [if_pos e2] at hv
          subst hv
          exact ⟨by rw [← bas_flat]; rfl, by rw [e2]; rfl⟩
        . rename_i e2
          rw [if_neg e2] at hv
          split at c3
          . rename_i e3
            rw [if_pos e3] at hv
            obtain ⟨q1, q2, q3, q4, q5, q6⟩ := e3
            have hmem : (allD (contD b 48).1).1.getD 1 edft ∈ (allD (contD b 48).1).1 := by
              have h2 := two_el q1
              rw [h2]; simp
            have hwx : Kd.wf BY ((allD (contD b 48).1).1.getD 1 edft).2 := by
              refine ⟨Nat.le_trans (hf.2 _ hmem).2 (by decide), fun y hy => hw.2 y ?_⟩
              rw [hf.1]
              refine List.mem_flatMap.2 ⟨_, hmem, ?_⟩
              rw [putB]
              exact List.mem_cons_of_mem _ (List.mem_append_right _ hy)
            have hI := int_of hwx (Prod.ext rfl q4.symm)
            subst hv
            refine ⟨?_, ?_⟩
            . rw [← bas_flat, BasicD, if_neg]
              rintro (h | h | h)
              . simp only at h; omega
              . simp only at h; omega
              . exact absurd h.1 (by simp)
            . have h2 := two_el q1
              show [((1 : Int), [(255 : Int)])] ++ (if (ToIntD ((allD (contD b 48).1).1.getD 1 edft).2).1 = -1 then [] else [((2 : Int), IntD (ToIntD ((allD (contD b 48).1).1.getD 1 edft).2).1)]) = _
              rw [if_neg (by omega), hI]
              conv => rhs; rw [h2]
              rw [q2, ← q3]
              rfl
          . cases c3
    rw [hout.1, hout.2, ← hf.1, hbs]
  . cases h
end Go.Pl
end
section
namespace Go.Pl
open Go.Vc
end Go.Pl
end
section
namespace Go.Pl
open Go.Vc
set_option linter.unusedVariables false
set_option linter.unusedSimpArgs false
set_option maxRecDepth 20000
end Go.Pl
end
section
namespace Go.Pl
open Go.Vc
set_option linter.unusedVariables false
set_option linter.unusedSimpArgs false
theorem one_take {b : List Int} (h : (oneD b).2 = 0) : (takeD b).1 = (oneD b).1 := by
  unfold oneD at h ⊢
  split at h
  . cases h
  . rename_i c; rw [if_neg c]
theorem ins_cont {b : List Int} {t : Int} (h : (contD b t).2 = true) : insD b t = ((allD (contD b t).1).1, decide ((allD (contD b t).1).2.2 = 0)) := by
  unfold contD at h ⊢
  split at h
  . rename_i c
    rw [if_pos c, insD, if_neg]
    rintro (q | q)
    . exact q c.1
    . exact q c.2
  . cases h
theorem ins_none {b : List Int} {t : Int} (h : (contD b t).2 = false) : insD b t = ([], false) := by
  unfold contD at h
  split at h
  . cases h
  . rename_i c
    rw [insD, if_pos]
    by_cases e : (oneD b).2 = 0
    . exact .inr fun e2 => c ⟨e, e2⟩
    . exact .inl e
end Go.Pl
end
section
namespace Go.Pl
open Go.Vc
set_option linter.unusedVariables false
set_option linter.unusedSimpArgs false
end Go.Pl
end
section
namespace Go.Pl
open Go.Vc
set_option linter.unusedVariables false
set_option linter.unusedSimpArgs false
end Go.Pl
end
section
namespace Go.Pl
open Go.Vc
set_option linter.unusedVariables false
set_option linter.unusedSimpArgs false
def takeE (l : List EltT) (t : Int) : List Int × Bool × List EltT := if l = [] ∨ (l.getD 0 edft).1 ≠ t then ([], false, l) else ((l.getD 0 edft).2, true, l.drop 1)
def yesE (l : List EltT) : Bool × List EltT × Bool := if (takeE l 1).2.1 = false then (false, l, true) else if ToBoolD (takeE l 1).1 = (true, 0) then (true, (takeE l 1).2.2, true) else (false, [], false)
theorem take_hit (t : Int) (c : List Int) (r : List EltT) : takeE ((t, c) :: r) t = (c, true, r) := by
  rw [takeE, if_neg (by simp)]; rfl
theorem take_miss {t u : Int} (c : List Int) (r : List EltT) (h : u ≠ t) : takeE ((u, c) :: r) t = ([], false, (u, c) :: r) := by
  rw [takeE, if_pos (.inr h)]
theorem take_false {l : List EltT} {t : Int} (h : (takeE l t).2.1 = false) : (takeE l t).2.2 = l := by
  unfold takeE at h ⊢
  split at h
  . rename_i c; rw [if_pos c]
  . cases h
theorem bool_true : ToBoolD [255] = (true, 0) := by decide
theorem true_bool {l : List Int} (h : ToBoolD l = (true, 0)) : l = [255] := by
  have := bool_of (l := l) (b := true) h.symm
  rw [← this]; rfl
end Go.Pl
end
section
namespace Go.Pl
open Go.Vc
set_option linter.unusedVariables false
set_option linter.unusedSimpArgs false
theorem contD_len (b : List Int) (t : Int) : (contD b t).1.length ≤ b.length := by
  unfold contD
  split
  . exact oneD_len b
  . exact Nat.zero_le _
theorem usage_bad {b : List Int} (h : (ToUsageD b).2 ≠ 0) : ToUsageD b = (0, 150) := by
  unfold ToUsageD at h ⊢
  split
  . rename_i c; rw [if_pos c] at h; exact absurd rfl h
  . rfl
theorem flags_nn0 : ∀ l : List Int, 0 ≤ flagsD l
  | [] => by decide
  | [a] => by simp only [flagsD]; omega
  | a :: b :: _ => by simp only [flagsD]; omega
theorem flagsD_nn (l : List Int) : 0 ≤ (ToFlagsD l).1 := by
  unfold ToFlagsD
  repeat' split
  all_goals first | exact Int.le_refl 0 | exact flags_nn0 _
theorem usage_rng {b : List Int} (h : (ToUsageD b).2 = 0) : (ToUsageD b).1 ≠ 0 ∧ (ToUsageD b).1 < 512 ∧ 0 ≤ (ToUsageD b).1 := by
  unfold ToUsageD at h ⊢
  split at h
  . rename_i c; rw [if_pos c]; exact ⟨c.2.2.1, c.2.2.2, flagsD_nn _⟩
  . cases h
theorem number_bad {b : List Int} (h : (ToNumberD b).2 ≠ 0) : ToNumberD b = (0, 150) := by
  unfold ToNumberD at h ⊢
  split
  . rename_i c; rw [if_pos c] at h; exact absurd rfl h
  . rfl
theorem cont_take {b : List Int} {t : Int} (h : (contD b t).2 = true) : (contD b t).1 = (takeD b).1.2 := by
  unfold contD at h ⊢
  split at h
  . rename_i c; rw [if_pos c, one_take c.1]
  . cases h
theorem number_guess {b : List Int} (h : (ToNumberD b).2 = 0) : (ToNumberD b).1 = (ToIntD (takeD b).1.2).1 ∧ (ToIntD (takeD b).1.2).2 = 0 := by
  unfold ToNumberD at h ⊢
  split at h
  . rename_i c
    rw [if_pos c]
    simp only
    rw [cont_take c.1] at c ⊢
    exact ⟨rfl, c.2.1⟩
  . cases h
theorem reason_bad {b : List Int} (h : (ToReasonD b).2 ≠ 0) : ToReasonD b = (0, 150) := by
  unfold ToReasonD at h ⊢
  split
  . rename_i c; rw [if_pos c] at h; exact absurd rfl h
  . rfl
theorem reason_rng {b : List Int} (h : (ToReasonD b).2 = 0) : 0 ≤ (ToReasonD b).1 ∧ (ToReasonD b).1 ≤ 10 := by
  unfold ToReasonD at h ⊢
  split at h
  . rename_i c
    rw [if_pos c]
    have := c.2.2
    simp only [reasonK, Bool.and_eq_true, decide_eq_true_eq] at this
    exact ⟨this.1, this.2.1⟩
  . cases h
theorem subject_bad {b : List Int} (h : (ToSubjectD b).2 ≠ 0) : ToSubjectD b = (zero20, 150) := by
  unfold ToSubjectD at h ⊢
  split
  . rename_i c; rw [if_pos c] at h; exact absurd rfl h
  . rfl
theorem issuer_bad {b : List Int} (h : (ToIssuerD b).2 ≠ 0) : ToIssuerD b = (zero20, 150) := by
  unfold ToIssuerD at h ⊢
  split
  . rename_i c; rw [if_pos c] at h; exact absurd rfl h
  . rfl
theorem basic_bad {b : List Int} (h : (ToBasicD b).2 ≠ 0) : ToBasicD b = ((false, 0), 150) := by
  unfold ToBasicD at h ⊢
  split
  . rename_i c; rw [if_pos c] at h; exact absurd rfl h
  . rfl
def basW (i : List EltT × Bool) : (Bool × Int) × Int :=
  if i.2 = false then ((false, 0), 150) else if (yesE i.1).2.2 = false then ((false, 0), 150)
  else if (takeE (yesE i.1).2.1 2).2.1 = true then
    (if (ToIntD (takeE (yesE i.1).2.1 2).1).2 = 0 ∧ (yesE i.1).1 = true ∧ 0 ≤ (ToIntD (takeE (yesE i.1).2.1 2).1).1 ∧ (ToIntD (takeE (yesE i.1).2.1 2).1).1 ≤ 100 ∧ (takeE (yesE i.1).2.1 2).2.2 = [] then (((yesE i.1).1, (ToIntD (takeE (yesE i.1).2.1 2).1).1), 0) else ((false, 0), 150))
  else (if (takeE (yesE i.1).2.1 2).2.2 = [] then (((yesE i.1).1, -1), 0) else ((false, 0), 150))
theorem basW_basE (l : List EltT) : basW (l, true) = if (basE l).2 = true then ((basE l).1, 0) else ((false, 0), 150) := by
  match l with
  | [] => decide
  | (t, c) :: r =>
    by_cases ht : t = 1
    . subst ht
      have hk : takeE ((1, c) :: r) 1 = (c, true, r) := take_hit _ _ _
      by_cases hc : c = [255]
      . subst hc
        have hy : yesE ((1, [255]) :: r) = (true, r, true) := by
          rw [yesE, hk, if_neg (by simp), if_pos bool_true]
        unfold basW
        simp only
        rw [hy]
        simp only
        rw [if_neg (by simp), if_neg (by simp)]
        match r with
        | [] => decide
        | (u, d) :: s =>
          by_cases hu : u = 2
          . subst hu
            have hp : takeE ((2, d) :: s) 2 = (d, true, s) := take_hit _ _ _
            rw [hp]
            simp only
            rw [if_pos (by first | rfl | trivial)]
            have hne : ((1 : Int), [(255 : Int)]) :: (2, d) :: s ≠ [] := by simp
            have hne2 : ((1 : Int), [(255 : Int)]) :: (2, d) :: s ≠ [(1, [255])] := by simp
            by_cases hs : s = []
            . subst hs
              by_cases hq : (ToIntD d).2 = 0 ∧ 0 ≤ (ToIntD d).1 ∧ (ToIntD d).1 ≤ 100
              . have hE : basE [(1, [255]), (2, d)] = ((true, (ToIntD d).1), true) := by
                  unfold basE
                  rw [if_neg hne, if_neg hne2]
                  exact if_pos ⟨rfl, rfl, rfl, hq⟩
                rw [hE, if_pos ⟨hq.1, by first | rfl | trivial, hq.2.1, hq.2.2, by first | rfl | trivial⟩]
                rfl
              . have hE : basE [(1, [255]), (2, d)] = ((false, 0), false) := by
                  unfold basE
                  rw [if_neg hne, if_neg hne2]
                  exact if_neg fun h => hq h.2.2.2
                rw [hE, if_neg (fun h => hq ⟨h.1, h.2.2.1, h.2.2.2.1⟩), if_neg (by simp)]
            . have hl : ¬ (((1 : Int), [(255 : Int)]) :: (2, d) :: s).length = 2 := fun h => hs (List.length_eq_zero_iff.1 (by simp only [List.length_cons] at h; omega))
              have hE : basE ((1, [255]) :: (2, d) :: s) = ((false, 0), false) := by
                unfold basE
                rw [if_neg hne, if_neg hne2]
                exact if_neg fun h => hl h.1
              rw [hE, if_neg (fun h => hs h.2.2.2.2), if_neg (by simp)]
          . have hp : takeE ((u, d) :: s) 2 = ([], false, (u, d) :: s) := take_miss _ _ hu
            rw [hp]
            simp only
            have hE : basE ((1, [255]) :: (u, d) :: s) = ((false, 0), false) := by
              unfold basE
              rw [if_neg (by simp), if_neg (by simp)]
              exact if_neg fun h => hu h.2.2.1
            rw [if_neg (by simp), if_neg (by simp), hE, if_neg (by simp)]
      . have hy : (yesE ((1, c) :: r)).2.2 = false := by
          rw [yesE, hk, if_neg (by simp), if_neg (fun h => hc (true_bool h))]
        unfold basW
        have hE : basE ((1, c) :: r) = ((false, 0), false) := by
          unfold basE
          rw [if_neg (by simp), if_neg (by simp [hc])]
          exact if_neg fun h => hc (Prod.mk.inj h.2.1).2
        rw [if_neg (by simp), if_pos hy, hE, if_neg (by simp)]
    . have hk : takeE ((t, c) :: r) 1 = ([], false, (t, c) :: r) := take_miss _ _ ht
      have hy : yesE ((t, c) :: r) = (false, (t, c) :: r, true) := by rw [yesE, hk, if_pos rfl]
      unfold basW
      simp only
      rw [hy]
      simp only
      rw [if_neg (by simp), if_neg (by simp)]
      have hb : basE ((t, c) :: r) = ((false, 0), false) := by
        unfold basE
        rw [if_neg (by simp), if_neg (by simp [ht])]
        exact if_neg fun h => ht (Prod.mk.inj h.2.1).1
      have hR : (if (basE ((t, c) :: r)).2 = true then ((basE ((t, c) :: r)).1, (0 : Int)) else ((false, 0), 150)) = ((false, 0), 150) := by
        rw [hb]; exact if_neg (by simp)
      rw [hR]
      by_cases h2 : t = 2
      . subst h2
        have hp : takeE ((2, c) :: r) 2 = (c, true, r) := take_hit _ _ _
        rw [hp]
        simp
      . have hp : takeE ((t, c) :: r) 2 = ([], false, (t, c) :: r) := take_miss _ _ h2
        rw [hp]
        simp
theorem toBasic_ins (b : List Int) : ToBasicD b = basW (insD b 48) := by
  unfold ToBasicD
  cases hc : (contD b 48).2 with
  | false =>
    rw [ins_none hc, if_neg (by simp), basW, if_pos rfl]
  | true =>
    rw [ins_cont hc]
    by_cases ha : (allD (contD b 48).1).2.2 = 0
    . rw [decide_eq_true ha, basW_basE]
      by_cases hb : (basE (allD (contD b 48).1).1).2 = true
      . rw [if_pos ⟨by first | rfl | trivial, ha, hb⟩, if_pos hb]
      . rw [if_neg (fun h => hb h.2.2), if_neg hb]
    . rw [if_neg (fun h => ha h.2.1), decide_eq_false ha, basW, if_pos rfl]
theorem basW_int {l : List EltT} {ca : Bool} {r q : List EltT} {p : List Int} {n f : Int} (h1 : yesE l = (ca, r, true)) (h2 : takeE r 2 = (p, true, q)) (h3 : ToIntD p = (n, f)) : basW (l, true) = if f = 0 ∧ ca = true ∧ 0 ≤ n ∧ n ≤ 100 ∧ q = [] then ((ca, n), 0) else ((false, 0), 150) := by
  simp [basW, h1, h2, h3]
theorem basW_no {l : List EltT} {ca : Bool} {r q : List EltT} {p : List Int} (h1 : yesE l = (ca, r, true)) (h2 : takeE r 2 = (p, false, q)) : basW (l, true) = if q = [] then ((ca, -1), 0) else ((false, 0), 150) := by
  simp [basW, h1, h2]
theorem basW_bad {l : List EltT} (h : (yesE l).2.2 = false) : basW (l, true) = ((false, 0), 150) := by
  simp [basW, h]
theorem basW_none {i : List EltT × Bool} (h : i.2 = false) : basW i = ((false, 0), 150) := by
  simp [basW, h]
theorem basicD_rng {v : Bool × Int} {b : List Int} (h : BasicD v = (b, 0)) : -1 ≤ v.2 ∧ v.2 ≤ 100 := by
  unfold BasicD at h
  split at h
  . cases h
  . omega
theorem eqL_iff : ∀ k m : List Int, eqL (fun x y : Int => decide (x = y)) k m = true ↔ k = m
  | [], [] => by simp [eqL]
  | [], _ :: _ => by simp [eqL]
  | _ :: _, [] => by simp [eqL]
  | a :: k, b :: m => by
    have := eqL_iff k m
    simp [eqL, this]
theorem eqL_refl (k : List Int) : eqL (fun x y : Int => decide (x = y)) k k = true := (eqL_iff k k).2 rfl
def lastK (b : List Int) : List Int := if 20 ≤ b.length then b.drop (b.length - 20) else zero20
theorem lastK_len (b : List Int) : (lastK b).length = 20 := by
  unfold lastK
  split
  . rw [List.length_drop]; omega
  . rfl
theorem lastK_app (a k : List Int) (h : k.length = 20) : lastK (a ++ k) = k := by
  rw [lastK, if_pos (by rw [List.length_append]; omega)]
  rw [List.length_append, h, Nat.add_sub_cancel, List.drop_left]
theorem subject_ref {b : List Int} (hb : Kd.wf BY b) : ToSubjectD b = if SubjectD (lastK b) = b then (lastK b, 0) else (zero20, 150) := by
  split
  . rename_i c
    exact (congrArg ToSubjectD c).symm.trans (subject_back (lastK_len b))
  . rename_i c
    by_cases h : (ToSubjectD b).2 = 0
    . obtain ⟨h1, h2⟩ := subject_once (k := (ToSubjectD b).1) hb (Prod.ext rfl h)
      have : lastK b = (ToSubjectD b).1 := by
        generalize (ToSubjectD b).1 = k at h1 h2
        subst h1
        exact lastK_app (4 :: lngD k.length) k h2
      exact absurd ((congrArg SubjectD this).trans h1) c
    . exact subject_bad h
theorem issuer_ref {b : List Int} (hb : Kd.wf BY b) : ToIssuerD b = if IssuerD (lastK b) = b then (lastK b, 0) else (zero20, 150) := by
  split
  . rename_i c
    exact (congrArg ToIssuerD c).symm.trans (issuer_back (lastK_len b))
  . rename_i c
    by_cases h : (ToIssuerD b).2 = 0
    . obtain ⟨h1, h2⟩ := issuer_once (k := (ToIssuerD b).1) hb (Prod.ext rfl h)
      have : lastK b = (ToIssuerD b).1 := by
        generalize (ToIssuerD b).1 = k at h1 h2
        subst h1
        have e : IssuerD k = (48 :: (lngD (putB (128, k)).length ++ (128 :: lngD k.length))) ++ k := by simp [IssuerD, putB]
        rw [e]
        exact lastK_app _ k h2
      exact absurd ((congrArg IssuerD this).trans h1) c
    . exact issuer_bad h
def fillK (l : List Int) (i : Nat) : List Int := l.take i ++ List.replicate (20 - i) 0
theorem fill_zero (l : List Int) : fillK l 0 = zero20 := rfl
theorem fill_len {l : List Int} (h : l.length = 20) {i : Nat} (hi : i ≤ 20) : (fillK l i).length = 20 := by
  simp [fillK, h]; omega
theorem fill_all {l : List Int} (h : l.length = 20) : fillK l 20 = l := by
  rw [fillK, List.take_of_length_le (by omega)]; simp
theorem fill_set {l : List Int} (h : l.length = 20) {i : Nat} (hi : i < 20) : (fillK l i).set i (l.getD i 0) = fillK l (i + 1) := by
  unfold fillK
  have h1 : (l.take i).length = i := by rw [List.length_take]; omega
  rw [show 20 - i = (20 - (i + 1)) + 1 by omega, List.replicate_succ, List.set_append_right _ _ (by omega), h1, Nat.sub_self, List.set_cons_zero]
  rw [ntake_snoc l i (by omega), List.append_assoc]
  rfl
end Go.Pl
end
