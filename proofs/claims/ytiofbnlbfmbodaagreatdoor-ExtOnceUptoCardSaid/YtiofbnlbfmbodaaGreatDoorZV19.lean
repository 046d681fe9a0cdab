/- Texts of a verified walk, led together: NumB, ExtR, ExtN, ExtX, ExtB. -/
import Derived.Test.YtiofbnlbfmbodaaGreatDoorZV17
import Derived.Test.YtiofbnlbfmbodaaGreatDoorZV18
import Derived.Test.YtiofbnlbfmbodaaGreatDoorZV14
import Derived.Test.YtiofbnlbfmbodaaGreatDoorZV11
import Derived.Test.YtiofbnlbfmbodaaGreatDoorZV16
set_option linter.unusedVariables false
set_option linter.unusedSimpArgs false
section
namespace Go.Pl
open Go.Vc
set_option linter.unusedVariables false
set_option linter.unusedSimpArgs false
theorem prev2 (x : Nat) (h : x < 256) : prev (prev x 8) 8 = x := by
  have key : ∀ x : Fin 256, prev (prev x.val 8) 8 = x.val := by decide +kernel
  exact key ⟨x, h⟩
theorem byte_mem {l : List Int} (h : Kd.wf BY l) : ∀ b ∈ l, 0 ≤ b ∧ b ≤ 255 := fun b hb => by
  have h2 : InR .u8 b := h.2 b hb
  simpa [InR, IntKind.min, IntKind.max, IntKind.signed, IntKind.bits] using h2
theorem low_fold : ∀ (l : List Int) (c : Int), (∀ b ∈ l, 0 ≤ b ∧ b ≤ 255) → low (foldB c l) l.length = l
  | [], _, _ => rfl
  | b :: r, c, h => by
    have hr : ∀ b ∈ r, 0 ≤ b ∧ b ≤ 255 := fun x hx => h x (List.mem_cons_of_mem _ hx)
    have hb := h b (by simp)
    have e : foldB c (b :: r) = foldB (c * 256 + b) r := rfl
    have hbd := fold_bnd r (c * 256 + b) hr
    have hP : (0 : Int) < 256 ^ r.length := Int.pow_pos (by decide)
    have hd : foldB (c * 256 + b) r / 256 ^ r.length = c * 256 + b := by
      have : foldB (c * 256 + b) r = (foldB (c * 256 + b) r - (c * 256 + b) * 256 ^ r.length) + (c * 256 + b) * 256 ^ r.length := by omega
      rw [this, Int.add_mul_ediv_right _ _ (by omega), Int.ediv_eq_zero_of_lt (by omega) (by omega), Int.zero_add]
    rw [e, List.length_cons, low, hd, low_fold r _ hr]
    congr 1
    omega
theorem ngetD_drop (l : List Int) (i j : Nat) : (l.drop i).getD j 0 = l.getD (i + j) 0 := by
  rw [List.getD_eq_getElem?_getD, List.getElem?_drop, ← List.getD_eq_getElem?_getD]
theorem fit_val {a : Int} {r : List Int} (h : Kd.wf BY (a :: r)) (hr : r.length ≤ 7) : fit (foldB (sx a) r) (r.length + 1) := by
  have hb := sx_bnd (head_bnd h)
  have h1 := fold_bnd r (sx a) (byte_mem (tail_wf h))
  have hp0 : (0 : Int) < 256 ^ r.length := Int.pow_pos (by decide)
  have h3 : -128 * 256 ^ r.length ≤ sx a * 256 ^ r.length := Int.mul_le_mul_of_nonneg_right hb.1 (by omega)
  have h4 : sx a * 256 ^ r.length ≤ 127 * 256 ^ r.length := Int.mul_le_mul_of_nonneg_right hb.2 (by omega)
  generalize foldB (sx a) r = x at h1 ⊢
  generalize sx a * 256 ^ r.length = y at h1 h3 h4
  generalize r.length = n at *
  match n, hr with
  | 0, _ | 1, _ | 2, _ | 3, _ | 4, _ | 5, _ | 6, _ | 7, _ => simp [fit] at *; omega
theorem int_of {l : List Int} {a : Int} (hw : Kd.wf BY l) (h : (a, (0 : Int)) = ToIntD l) : IntD a = l := by
  unfold ToIntD at h
  split at h
  . cases h
  . rename_i hs
    split at h
    . cases h
    . rename_i h8
      have ha : a = nvalD l := by cases h; rfl
      rcases l with _ | ⟨x, r⟩
      . exact absurd rfl hs
      . have hr : r.length ≤ 7 := by simp at h8; omega
        have hx := head_bnd hw
        rw [val_cons r hx] at ha
        have hfit := fit_val hw hr
        rw [← ha] at hfit
        have hlow : low a (r.length + 1) = x :: r := by
          have e : a = foldB (if 128 ≤ x then -1 else 0) (x :: r) := by
            rw [ha]
            show _ = foldB ((if 128 ≤ x then -1 else 0) * 256 + x) r
            congr 1
            unfold sx
            split <;> omega
          have := low_fold (x :: r) (if 128 ≤ x then -1 else 0) (byte_mem hw)
          rw [← e] at this
          exact this
        have hwide : wide a 1 7 = r.length + 1 := by
          refine wide_eq a _ (by omega) (by omega) hfit ?_
          rcases r with _ | ⟨y, r⟩
          . exact .inl rfl
          . right
            simp only [List.length_cons] at hr hfit hlow ⊢
            have hst := fit_step a (8 - (r.length + 1 + 1)) (by omega) (by rw [show 8 - (8 - (r.length + 1 + 1)) = r.length + 1 + 1 by omega]; exact hfit)
            have hd := low_drop a (8 - (r.length + 1 + 1)) (by omega)
            rw [show 8 - (8 - (r.length + 1 + 1)) = r.length + 1 + 1 by omega, hlow] at hd
            have g0 : (low a 8).getD (8 - (r.length + 1 + 1)) 0 = x := by
              have := ngetD_drop (low a 8) (8 - (r.length + 1 + 1)) 0
              rw [hd] at this
              exact this.symm
            have g1 : (low a 8).getD (8 - (r.length + 1 + 1) + 1) 0 = y := by
              have := ngetD_drop (low a 8) (8 - (r.length + 1 + 1)) 1
              rw [hd] at this
              exact this.symm
            rw [g0, g1, show 7 - (8 - (r.length + 1 + 1)) = r.length + 1 + 1 - 1 by omega] at hst
            intro hc
            have h5 := hst.2 hc
            simp only [ShortD, Bool.not_eq_false', Bool.or_eq_true, Bool.and_eq_true, decide_eq_true_eq] at hs
            exact hs h5
        rw [IntD, hwide, hlow]
theorem bool_of {l : List Int} {b : Bool} (h : (b, (0 : Int)) = ToBoolD l) : BoolD b = l := by
  unfold ToBoolD at h
  split at h
  . rename_i e; cases h; exact e.symm
  . split at h
    . rename_i e; cases h; exact e.symm
    . cases h
theorem flags_of {l : List Int} {f : Int} (hw : Kd.wf BY l) (h : (f, (0 : Int)) = ToFlagsD l) : FlagsD f.toNat = l := by
  rcases l with _ | ⟨u, bits⟩
  . cases h
  . have hwb := tail_wf hw
    rw [ToFlagsD] at h
    by_cases hf : FitsD bits u = true
    . rw [ToBitsD, if_pos hf] at h
      simp only at h
      rw [if_neg (by simp)] at h
      obtain ⟨h0, h7, he, hz⟩ := fits_rng hf
      split at h
      . cases h
      . rename_i hc
        split at h
        . cases h
        . rename_i h2
          have hfv : f = flagsD bits := by cases h; rfl
          rcases bits with _ | ⟨a, _ | ⟨b, _ | ⟨c, r⟩⟩⟩
          . have := he rfl
            subst this
            rw [hfv]
            rfl
          . have ha := head_bnd hwb
            have hz := hz (by simp)
            have hc : ¬ (a / 2 ^ u.toNat) % 2 = 0 := fun hh => hc ⟨by simp, hh⟩
            have key : ∀ a : Fin 256, ∀ u : Fin 8, (a.val : Int) % 2 ^ u.val = 0 → ¬ ((a.val : Int) / 2 ^ u.val) % 2 = 0 → FlagsD (prev a.val 8) = [(u.val : Int), (a.val : Int)] := by decide +kernel
            have hk := key ⟨a.toNat, by omega⟩ ⟨u.toNat, by omega⟩
            simp only [Int.toNat_of_nonneg ha.1, Int.toNat_of_nonneg h0] at hk
            rw [hfv]
            exact hk hz hc
          . have ha := head_bnd hwb
            have hb := head_bnd (tail_wf hwb)
            have hz := hz (by simp)
            have hc : ¬ (b / 2 ^ u.toNat) % 2 = 0 := fun hh => hc ⟨by simp, hh⟩
            have key : ∀ a : Fin 256, ∀ u : Fin 8, (a.val : Int) % 2 ^ u.val = 0 → ¬ ((a.val : Int) / 2 ^ u.val) % 2 = 0 → 1 ≤ prev a.val 8 ∧ 8 - (lastb (prev a.val 8) 8 : Int) = (u.val : Int) ∧ (prev (prev a.val 8) 8 : Int) = (a.val : Int) := by decide +kernel
            have hk := key ⟨b.toNat, by omega⟩ ⟨u.toNat, by omega⟩
            simp only [Int.toNat_of_nonneg hb.1, Int.toNat_of_nonneg h0] at hk
            obtain ⟨k1, k2, k3⟩ := hk hz hc
            have la := prev_lt a.toNat (by omega)
            have lb := prev_lt b.toNat (by omega)
            have e : f.toNat = prev a.toNat 8 + 256 * prev b.toNat 8 := by
              rw [hfv, flagsD]
              omega
            have e1 : f.toNat / 256 = prev b.toNat 8 := by omega
            have e2 : f.toNat % 256 = prev a.toNat 8 := by omega
            rw [FlagsD, if_neg (by omega), if_neg (by omega), e1, e2, k2, k3, prev2 _ (by omega), Int.toNat_of_nonneg ha.1]
          . simp at h2
    . rw [ToBitsD, if_neg hf] at h
      simp at h
end Go.Pl
end
section
namespace Go.Pl
open Go.Vc
set_option linter.unusedVariables false
set_option linter.unusedSimpArgs false
def contD (b : List Int) (t : Int) : List Int × Bool := if (oneD b).2 = 0 ∧ (oneD b).1.1 = t then ((oneD b).1.2, true) else ([], false)
theorem cont_of {b : List Int} {t : Int} (hb : Bys b) (h : (contD b t).2 = true) : putB (t, (contD b t).1) = b := by
  unfold contD at h ⊢
  split at h
  . rename_i c
    rw [if_pos c]
    have := (one_back hb c.1).2.2
    rw [← c.2]
    exact this.symm
  . cases h
def ToNumberD (b : List Int) : Int × Int :=
  if (contD b 2).2 = true ∧ (ToIntD (contD b 2).1).2 = 0 ∧ 0 ≤ (ToIntD (contD b 2).1).1 then ((ToIntD (contD b 2).1).1, 0) else (0, 150)
def ToReasonD (b : List Int) : Int × Int :=
  if (contD b 10).2 = true ∧ (ToIntD (contD b 10).1).2 = 0 ∧ reasonK (ToIntD (contD b 10).1).1 = true then ((ToIntD (contD b 10).1).1, 0) else (0, 150)
def ToUsageD (b : List Int) : Int × Int :=
  if (contD b 3).2 = true ∧ (ToFlagsD (contD b 3).1).2 = 0 ∧ (ToFlagsD (contD b 3).1).1 ≠ 0 ∧ (ToFlagsD (contD b 3).1).1 < 512 then ((ToFlagsD (contD b 3).1).1, 0) else (0, 150)
def zero20 : List Int := [0, 0, 0, 0, 0, 0, 0, 0, 0, 0, 0, 0, 0, 0, 0, 0, 0, 0, 0, 0]
def ToSubjectD (b : List Int) : List Int × Int :=
  if (contD b 4).2 = true ∧ (contD b 4).1.length = 20 then ((contD b 4).1, 0) else (zero20, 150)
def ToIssuerD (b : List Int) : List Int × Int :=
  if (contD b 48).2 = true ∧ (contD (contD b 48).1 128).2 = true ∧ (contD (contD b 48).1 128).1.length = 20 then ((contD (contD b 48).1 128).1, 0) else (zero20, 150)
theorem cont_bys {b : List Int} {t : Int} (hb : Bys b) : Bys (contD b t).1 := by
  by_cases h : (contD b t).2 = true
  . have e := cont_of hb h
    intro x hx
    refine hb x ?_
    rw [← e, putB]
    exact List.mem_cons_of_mem _ (List.mem_append_right _ hx)
  . unfold contD at h ⊢
    split
    . rename_i c; rw [if_pos c] at h; exact absurd rfl h
    . intro x hx; cases hx
theorem cont_wf {b : List Int} {t : Int} (hb : Kd.wf BY b) : Kd.wf BY (contD b t).1 := by
  have hby : Bys b := sl_bys hb
  have hl : (contD b t).1.length ≤ b.length := by
    by_cases h : (contD b t).2 = true
    . have e := congrArg List.length (cont_of hby h)
      rw [put_len] at e
      simp only at e
      omega
    . unfold contD at h ⊢
      split
      . rename_i c; rw [if_pos c] at h; exact absurd rfl h
      . simp
  refine ⟨Nat.le_trans hl hb.1, fun x hx => ?_⟩
  have h2 := cont_bys (t := t) hby x hx
  show InR .u8 x
  simp [InR, IntKind.min, IntKind.max, IntKind.signed, IntKind.bits]
  omega
theorem number_once {b : List Int} {n : Int} (hb : Kd.wf BY b) (h : ToNumberD b = (n, 0)) : NumberD n = (b, 0) := by
  unfold ToNumberD at h
  split at h
  . rename_i c
    obtain ⟨rfl, _⟩ := Prod.mk.inj h
    rw [NumberD, if_neg (by omega), int_of (cont_wf hb) (Prod.ext rfl c.2.1.symm), cont_of (sl_bys hb) c.1]
  . cases h
theorem reason_once {b : List Int} {n : Int} (hb : Kd.wf BY b) (h : ToReasonD b = (n, 0)) : ReasonD n = (b, 0) := by
  unfold ToReasonD at h
  split at h
  . rename_i c
    obtain ⟨rfl, _⟩ := Prod.mk.inj h
    rw [ReasonD, if_neg (by rw [c.2.2]; decide), int_of (cont_wf hb) (Prod.ext rfl c.2.1.symm), cont_of (sl_bys hb) c.1]
  . cases h
theorem usage_once {b : List Int} {n : Int} (hb : Kd.wf BY b) (h : ToUsageD b = (n, 0)) : UsageD n = (b, 0) := by
  unfold ToUsageD at h
  split at h
  . rename_i c
    obtain ⟨rfl, _⟩ := Prod.mk.inj h
    rw [UsageD, if_neg (by omega), flags_of (cont_wf hb) (Prod.ext rfl c.2.1.symm), cont_of (sl_bys hb) c.1]
  . cases h
theorem subject_once {b k : List Int} (hb : Kd.wf BY b) (h : ToSubjectD b = (k, 0)) : SubjectD k = b ∧ k.length = 20 := by
  unfold ToSubjectD at h
  split at h
  . rename_i c
    obtain ⟨rfl, _⟩ := Prod.mk.inj h
    exact ⟨cont_of (sl_bys hb) c.1, c.2⟩
  . cases h
theorem issuer_once {b k : List Int} (hb : Kd.wf BY b) (h : ToIssuerD b = (k, 0)) : IssuerD k = b ∧ k.length = 20 := by
  unfold ToIssuerD at h
  split at h
  . rename_i c
    obtain ⟨rfl, _⟩ := Prod.mk.inj h
    refine ⟨?_, c.2.2⟩
    rw [IssuerD, cont_of (cont_bys (sl_bys hb)) c.2.1, cont_of (sl_bys hb) c.1]
  . cases h
def basE (l : List EltT) : (Bool × Int) × Bool :=
  if l = [] then ((false, -1), true) else if l = [(1, [255])] then ((true, -1), true)
  else if l.length = 2 ∧ l.getD 0 edft = (1, [255]) ∧ (l.getD 1 edft).1 = 2 ∧ (ToIntD (l.getD 1 edft).2).2 = 0 ∧ 0 ≤ (ToIntD (l.getD 1 edft).2).1 ∧ (ToIntD (l.getD 1 edft).2).1 ≤ 100 then ((true, (ToIntD (l.getD 1 edft).2).1), true) else ((false, 0), false)
def ToBasicD (b : List Int) : (Bool × Int) × Int :=
  if (contD b 48).2 = true ∧ (allD (contD b 48).1).2.2 = 0 ∧ (basE (allD (contD b 48).1).1).2 = true then ((basE (allD (contD b 48).1).1).1, 0) else ((false, 0), 150)
def basL (v : Bool × Int) : List EltT := (if v.1 = true then [(1, [255])] else []) ++ (if v.2 = -1 then [] else [(2, IntD v.2)])
theorem bas_flat (v : Bool × Int) : caB v.1 ++ pathB v.2 = (basL v).flatMap putB := by
  obtain ⟨c, n⟩ := v
  cases c <;> by_cases h : n = -1 <;> simp [caB, pathB, basL, h]
theorem two_el {l : List EltT} (h : l.length = 2) : l = [l.getD 0 edft, l.getD 1 edft] := by
  match l, h with
  | [a, b], _ => rfl
theorem basic_once {b : List Int} {v : Bool × Int} (hb : Kd.wf BY b) (h : ToBasicD b = (v, 0)) : BasicD v = (b, 0) := by
  unfold ToBasicD at h
  split at h
  . rename_i c
    obtain ⟨c1, c2, c3⟩ := c
    have hv := (Prod.mk.inj h).1
    have hw := cont_wf (t := 48) hb
    have hf := flat_all (sl_bys hw) c2
    have hbs := cont_of (sl_bys hb) c1
    have hout : (BasicD v) = (putB (48, (basL v).flatMap putB), 0) ∧ basL v = (allD (contD b 48).1).1 := by
      unfold basE at c3 hv
      split at c3
      . rename_i e
        rw [if_pos e] at hv
        subst hv
        exact ⟨by rw [← bas_flat]; rfl, by rw [e]; rfl⟩
      . rename_i e
        rw [if_neg e] at hv
        split at c3
        . rename_i e2
          rw [if_pos e2] at hv
          subst hv
          exact ⟨by rw [← bas_flat]; rfl, by rw [e2]; rfl⟩
        . rename_i e2
          rw [if_neg e2] at hv
          split at c3
          . rename_i e3
            rw [if_pos e3] at hv
            obtain ⟨q1, q2, q3, q4, q5, q6⟩ := e3
            have hmem : (allD (contD b 48).1).1.getD 1 edft ∈ (allD (contD b 48).1).1 := by
              have h2 := two_el q1
              rw [h2]; simp
            have hwx : Kd.wf BY ((allD (contD b 48).1).1.getD 1 edft).2 := by
              refine ⟨Nat.le_trans (hf.2 _ hmem).2 (by decide), fun y hy => hw.2 y ?_⟩
              rw [hf.1]
              refine List.mem_flatMap.2 ⟨_, hmem, ?_⟩
              rw [putB]
              exact List.mem_cons_of_mem _ (List.mem_append_right _ hy)
            have hI := int_of hwx (Prod.ext rfl q4.symm)
            subst hv
            refine ⟨?_, ?_⟩
            . rw [← bas_flat, BasicD, if_neg]
              rintro (h | h | h)
              . simp only at h; omega
              . simp only at h; omega
              . exact absurd h.1 (by simp)
            . have h2 := two_el q1
              show [((1 : Int), [(255 : Int)])] ++ (if (ToIntD ((allD (contD b 48).1).1.getD 1 edft).2).1 = -1 then [] else [((2 : Int), IntD (ToIntD ((allD (contD b 48).1).1.getD 1 edft).2).1)]) = _
              rw [if_neg (by omega), hI]
              conv => rhs; rw [h2]
              rw [q2, ← q3]
              rfl
          . cases c3
    rw [hout.1, hout.2, ← hf.1, hbs]
  . cases h
end Go.Pl
end
section
namespace Go.Pl
open Go.Vc
set_option linter.unusedVariables false
set_option linter.unusedSimpArgs false
abbrev GenT : Type := Int × List Int
abbrev gdft : GenT := ((0 : Int), ([] : List Int))
theorem one_bys {b : List Int} (hb : Bys b) (h : (oneD b).2 = 0) : Bys (oneD b).1.2 := by
  have e := (one_back hb h).2.2
  intro x hx
  refine hb x ?_
  rw [e, putB]
  exact List.mem_cons_of_mem _ (List.mem_append_right _ hx)
theorem ins_of {b : List Int} {t : Int} (hb : Bys b) (h : (insD b t).2 = true) : putB (t, (insD b t).1.flatMap putB) = b ∧ (∀ x ∈ (insD b t).1, isTagD x.1 = true ∧ x.2.length ≤ 16777215) ∧ ∀ x ∈ (insD b t).1, Bys x.2 := by
  unfold insD at h ⊢
  split at h
  . cases h
  . rename_i c
    rw [if_neg c]
    have c1 : (oneD b).2 = 0 := by
      by_cases e : (oneD b).2 = 0
      . exact e
      . exact absurd (.inl e) c
    have c2 : (oneD b).1.1 = t := by
      by_cases e : (oneD b).1.1 = t
      . exact e
      . exact absurd (.inr e) c
    have hB := one_bys hb c1
    have hf := flat_all hB (of_decide_eq_true h)
    have he := (one_back hb c1).2.2
    refine ⟨?_, hf.2, fun x hx y hy => hB y ?_⟩
    . simp only
      rw [← hf.1, ← c2]
      exact he.symm
    . rw [hf.1]
      refine List.mem_flatMap.2 ⟨x, hx, ?_⟩
      rw [putB]
      exact List.mem_cons_of_mem _ (List.mem_append_right _ hy)
def insL (b : List Int) : List EltT := (rowD (takeD b).1.2).1.map (·.2)
theorem one_take {b : List Int} (h : (oneD b).2 = 0) : (takeD b).1 = (oneD b).1 := by
  unfold oneD at h ⊢
  split at h
  . cases h
  . rename_i c; rw [if_neg c]
theorem all_row {b : List Int} (h : (allD b).2.2 = 0) : (rowD b).1.map (·.2) = (allD b).1 := by
  unfold allD at h ⊢
  split at h
  . rename_i c; exact absurd h c
  . rename_i c; rw [if_neg c]
theorem insL_of {b : List Int} {t : Int} (h : (insD b t).2 = true) : insL b = (insD b t).1 := by
  unfold insD at h ⊢
  split at h
  . cases h
  . rename_i c
    rw [if_neg c, insL]
    have c1 : (oneD b).2 = 0 := by
      by_cases e : (oneD b).2 = 0
      . exact e
      . exact absurd (.inl e) c
    rw [one_take c1]
    exact all_row (of_decide_eq_true h)
theorem flat_mem_len {α : Type} (f : α → List Int) : ∀ {l : List α} {x : α}, x ∈ l → (f x).length ≤ (l.flatMap f).length
  | a :: l, x, h => by
    rw [List.flatMap_cons, List.length_append]
    rcases List.mem_cons.1 h with rfl | h
    . omega
    . have := flat_mem_len f h; omega
theorem put_cont (x : EltT) : x.2.length ≤ (putB x).length := by rw [put_len]; omega
theorem flat_map_put {α : Type} (f : α → EltT) (l : List α) : l.flatMap (fun a => putB (f a)) = (l.map f).flatMap putB := by
  induction l with
  | nil => rfl
  | cons a l ih => simp only [List.flatMap_cons, List.map_cons, ih]
theorem take_bys {b : List Int} (hb : Bys b) : Bys (takeD b).1.2 := by
  unfold takeD
  split
  . intro x hx; cases hx
  split
  . intro x hx; cases hx
  . intro x hx
    exact hb x (List.mem_of_mem_drop (List.mem_of_mem_take hx))
theorem rowR_sum {b : List Int} (hb : Bys b) : ∀ (k : Nat) (i : Int), 0 ≤ i → i ≤ b.length → ((((rowR b k i).1.map (·.2)).flatMap (·.2)).length : Int) ≤ b.length - i ∧ ∀ x ∈ (rowR b k i).1.map (·.2), isTagD x.1 = true ∧ Bys x.2
  | 0, i, h0, h1 => by
    refine ⟨?_, fun x hx => by simp [rowR] at hx⟩
    simp [rowR]; omega
  | k + 1, i, h0, h1 => by
    rw [rowR]
    split
    . rename_i c
      split
      . refine ⟨?_, fun x hx => by simp at hx⟩
        simp; omega
      . rename_i e
        have e : (takeD (b.drop i.toNat)).2.2 = 0 := by simpa using e
        have hd : Bys (b.drop i.toNat) := fun x hx => hb x (List.mem_of_mem_drop hx)
        have hv := take_inv hd e
        have hk := take_ok hd e
        have hc := put_cont (takeD (b.drop i.toNat)).1
        have hlen : (b.drop i.toNat).length = b.length - i.toNat := List.length_drop
        obtain ⟨h2, h3⟩ := rowR_sum hb k (i + (takeD (b.drop i.toNat)).2.1) (by omega) (by omega)
        refine ⟨?_, fun x hx => ?_⟩
        . simp only [List.map_cons, List.flatMap_cons, List.length_append]
          omega
        . simp only [List.map_cons] at hx
          rcases List.mem_cons.1 hx with rfl | hx
          . exact ⟨hv.1, take_bys hd⟩
          . exact h3 x hx
    . refine ⟨?_, fun x hx => by simp at hx⟩
      simp; omega
theorem rowD_sum {b : List Int} (hb : Bys b) : (((rowD b).1.map (·.2)).flatMap (·.2)).length ≤ b.length ∧ ∀ x ∈ (rowD b).1.map (·.2), isTagD x.1 = true ∧ Bys x.2 := by
  obtain ⟨h1, h2⟩ := rowR_sum hb b.length 0 (Int.le_refl _) (by omega)
  exact ⟨by unfold rowD; omega, h2⟩
theorem insL_sum {b : List Int} (hb : Bys b) : ((insL b).flatMap (·.2)).length ≤ b.length ∧ ∀ x ∈ insL b, isTagD x.1 = true ∧ Bys x.2 := by
  obtain ⟨h1, h2⟩ := rowD_sum (take_bys hb)
  have := takeD_len b
  exact ⟨by unfold insL; omega, h2⟩
theorem ins_cont {b : List Int} {t : Int} (h : (contD b t).2 = true) : insD b t = ((allD (contD b t).1).1, decide ((allD (contD b t).1).2.2 = 0)) := by
  unfold contD at h ⊢
  split at h
  . rename_i c
    rw [if_pos c, insD, if_neg]
    rintro (q | q)
    . exact q c.1
    . exact q c.2
  . cases h
theorem ins_none {b : List Int} {t : Int} (h : (contD b t).2 = false) : insD b t = ([], false) := by
  unfold contD at h
  split at h
  . cases h
  . rename_i c
    rw [insD, if_pos]
    by_cases e : (oneD b).2 = 0
    . exact .inr fun e2 => c ⟨e, e2⟩
    . exact .inl e
abbrev GK : Kd := .pair (.int .i64) .str
def lenG (l : List GenT) : Nat := (l.flatMap fun g => g.2).length
def lenEs (l : List EltT) : Nat := (l.flatMap fun x => x.2).length
def tagG (k : Int) : Int := if k = 4 then 164 else 128 + k
def elG (g : GenT) : EltT := (tagG g.1, g.2)
def genB (g : GenT) : List Int := putB (elG g)
def genE (x : EltT) : GenT := (x.1 % 32, x.2)
def okE (x : EltT) : Bool := decide (x.1 = tagG (x.1 % 32))
def okG (x : EltT) : Bool := okE x && mayG (x.1 % 32) x.2
def NamesD (l : List GenT) : List Int × Int := if l = [] ∨ 16 < l.length ∨ (l.all fun g => mayG g.1 g.2) = false then ([], 150) else (putB (48, l.flatMap genB), 0)
def ToNamesD (b : List Int) : List GenT × Int :=
  if (insD b 48).2 = true ∧ (insD b 48).1.all okG = true ∧ (insD b 48).1 ≠ [] ∧ (insD b 48).1.length ≤ 16 then ((insD b 48).1.map genE, 0) else ([], 150)
theorem tagG_kind {k : Int} (h : kindG k) : isTagD (tagG k) = true ∧ tagG k % 32 = k := by
  rcases h with rfl | rfl | rfl | rfl <;> decide
theorem gen_el {g : GenT} (h : kindG g.1) : genE (elG g) = g ∧ okE (elG g) = true := by
  obtain ⟨k, t⟩ := g
  have h2 := (tagG_kind h).2
  refine ⟨?_, ?_⟩
  . show (tagG k % 32, t) = (k, t)
    rw [h2]
  . show decide (tagG k = tagG (tagG k % 32)) = true
    rw [h2]; exact decide_eq_true rfl
theorem el_gen {x : EltT} (h : okE x = true) : elG (genE x) = x := by
  obtain ⟨t, c⟩ := x
  have h : t = tagG (t % 32) := of_decide_eq_true h
  show (tagG (t % 32), c) = (t, c)
  rw [← h]
theorem okG_may {x : EltT} (h : okG x = true) : okE x = true ∧ mayG (genE x).1 (genE x).2 = true := by
  unfold okG at h
  exact Bool.and_eq_true_iff.1 h
theorem names_once {b : List Int} {l : List GenT} (hb : Bys b) (h : ToNamesD b = (l, 0)) : NamesD l = (b, 0) ∧ l = (insL b).map genE := by
  unfold ToNamesD at h
  split at h
  . rename_i c
    obtain ⟨c1, c2, c3, c4⟩ := c
    obtain ⟨e, _⟩ := Prod.mk.inj h
    subst e
    have hall : ∀ x ∈ (insD b 48).1, okG x = true := fun x hx => List.all_eq_true.1 c2 x hx
    have hi := ins_of hb c1
    refine ⟨?_, by rw [insL_of c1]⟩
    rw [NamesD, if_neg]
    . have : ((insD b 48).1.map genE).flatMap genB = (insD b 48).1.flatMap putB := by
        show ((insD b 48).1.map genE).flatMap (fun g => putB (elG g)) = _
        rw [flat_map_put, List.map_map]
        have : (insD b 48).1.map (elG ∘ genE) = (insD b 48).1 := by
          conv => rhs; rw [← List.map_id (insD b 48).1]
          exact List.map_congr_left fun x hx => el_gen (okG_may (hall x hx)).1
        rw [this]
      rw [this, hi.1]
    . rintro (q | q | q)
      . simp at q; exact c3 q
      . simp at q; omega
      . have : ((insD b 48).1.map genE).all (fun g => mayG g.1 g.2) = true := List.all_eq_true.2 fun g hg => by
          obtain ⟨x, hx, rfl⟩ := List.mem_map.1 hg
          exact (okG_may (hall x hx)).2
        rw [this] at q
        cases q
  . cases h
def unlikeK (l : List Int) (lo hi : Int) : Bool := (l.all fun n => decide (lo ≤ n) && decide (n ≤ hi)) && decide l.Nodup
def lastO (b ahead : List Int) : Int × Bool := if (DecD b).2 = 0 ∧ (DecD b).1.length = ahead.length + 1 ∧ (DecD b).1.take ahead.length = ahead then ((DecD b).1.getD ahead.length 0, true) else (0, false)
def lastL (b : List Int) : Int := if (DecD b).1 = [] then -1 else (DecD b).1.getD ((DecD b).1.length - 1) 0
theorem arc_snoc {l a : List Int} (h : l.length = a.length + 1) (ht : l.take a.length = a) : l = a ++ [l.getD a.length 0] := by
  have h1 := List.take_append_drop a.length l
  have h2 : l.drop a.length = [l.getD a.length 0] := by
    have h3 : (l.drop a.length).length = 1 := by simp; omega
    match hd : l.drop a.length, h3 with
    | [x], _ =>
      have : l.getD a.length 0 = x := by
        have h4 : (l.drop a.length).getD 0 0 = x := by rw [hd]; rfl
        rw [List.getD_eq_getElem?_getD, List.getElem?_drop, Nat.add_zero] at h4
        rw [List.getD_eq_getElem?_getD]; exact h4
      rw [this]
  rw [ht, h2] at h1
  exact h1.symm
theorem last_enc {a : List Int} {n : Int} (h : mayO (a ++ [n]) = true) : lastO (encO (a ++ [n])) a = (n, true) ∧ lastL (encO (a ++ [n])) = n := by
  have hd := dec_enc h
  have hg : (a ++ [n]).getD a.length 0 = n := by simp [List.getD_eq_getElem?_getD]
  refine ⟨?_, ?_⟩
  . rw [lastO, hd, if_pos ⟨rfl, by simp, by simp⟩]
    simp only [hg]
  . rw [lastL, hd, if_neg (by simp)]
    simp only [List.length_append, List.length_cons, List.length_nil]
    exact hg
theorem last_of {b a : List Int} (hb : Bys b) (h : (lastO b a).2 = true) : mayO (a ++ [(lastO b a).1]) = true ∧ encO (a ++ [(lastO b a).1]) = b := by
  unfold lastO at h ⊢
  split at h
  . rename_i c
    obtain ⟨c1, c2, c3⟩ := c
    rw [if_pos ⟨c1, c2, c3⟩]
    have := enc_dec (x := (DecD b).1) hb (Prod.ext rfl c1)
    rw [arc_snoc c2 c3] at this
    exact this
  . cases h
def purA : List Int := [1, 3, 6, 1, 5, 5, 7, 3]
def elP (n : Int) : EltT := (6, encO (purA ++ [n]))
def purB (n : Int) : List Int := putB (elP n)
def PurposesD (l : List Int) : List Int × Int := if l = [] ∨ 16 < l.length ∨ unlikeK l 1 127 = false then ([], 150) else (putB (48, l.flatMap purB), 0)
def okP (x : EltT) : Bool := decide (x.1 = 6) && (lastO x.2 purA).2
def ToPurposesD (b : List Int) : List Int × Int :=
  if (insD b 48).2 = true ∧ (insD b 48).1.all okP = true ∧ (insD b 48).1 ≠ [] ∧ (insD b 48).1.length ≤ 16 ∧ unlikeK ((insD b 48).1.map fun x => (lastO x.2 purA).1) 1 127 = true then ((insD b 48).1.map fun x => (lastO x.2 purA).1, 0) else ([], 150)
theorem pur_may {n : Int} (h0 : 0 ≤ n) (h1 : n ≤ 127) : mayO (purA ++ [n]) = true := by
  simp [mayO, inArc, purA]
  omega
theorem unlike_in {l : List Int} {lo hi : Int} (h : unlikeK l lo hi = true) : ∀ n ∈ l, lo ≤ n ∧ n ≤ hi := by
  intro n hn
  have := List.all_eq_true.1 (Bool.and_eq_true_iff.1 h).1 n hn
  simpa using this
theorem purposes_once {b l : List Int} (hb : Bys b) (h : ToPurposesD b = (l, 0)) : PurposesD l = (b, 0) ∧ l = (insL b).map fun x => lastL x.2 := by
  unfold ToPurposesD at h
  split at h
  . rename_i c
    obtain ⟨c1, c2, c3, c4, c5⟩ := c
    obtain ⟨e, _⟩ := Prod.mk.inj h
    subst e
    have hi := ins_of hb c1
    have hall : ∀ x ∈ (insD b 48).1, x.1 = 6 ∧ (lastO x.2 purA).2 = true := fun x hx => by
      have := List.all_eq_true.1 c2 x hx
      simpa [okP] using this
    have hel : ∀ x ∈ (insD b 48).1, elP (lastO x.2 purA).1 = x ∧ lastL x.2 = (lastO x.2 purA).1 := fun x hx => by
      obtain ⟨h1, h2⟩ := hall x hx
      obtain ⟨h3, h4⟩ := last_of (hi.2.2 x hx) h2
      refine ⟨?_, ?_⟩
      . unfold elP
        rw [h4, ← h1]
      . conv => lhs; rw [← h4]
        exact (last_enc h3).2
    refine ⟨?_, ?_⟩
    . rw [PurposesD, if_neg]
      . have : ((insD b 48).1.map fun x => (lastO x.2 purA).1).flatMap purB = (insD b 48).1.flatMap putB := by
          show ((insD b 48).1.map fun x => (lastO x.2 purA).1).flatMap (fun n => putB (elP n)) = _
          rw [flat_map_put, List.map_map]
          have : (insD b 48).1.map (elP ∘ fun x => (lastO x.2 purA).1) = (insD b 48).1 := by
            conv => rhs; rw [← List.map_id (insD b 48).1]
            exact List.map_congr_left fun x hx => (hel x hx).1
          rw [this]
        rw [this, hi.1]
      . rintro (q | q | q)
        . simp at q; exact c3 q
        . simp at q; omega
        . rw [c5] at q; cases q
    . rw [insL_of c1]
      exact List.map_congr_left fun x hx => (hel x hx).2.symm
  . cases h
end Go.Pl
end
section
namespace Go.Pl
open Go.Vc
set_option linter.unusedVariables false
set_option linter.unusedSimpArgs false
def takeE (l : List EltT) (t : Int) : List Int × Bool × List EltT := if l = [] ∨ (l.getD 0 edft).1 ≠ t then ([], false, l) else ((l.getD 0 edft).2, true, l.drop 1)
def yesE (l : List EltT) : Bool × List EltT × Bool := if (takeE l 1).2.1 = false then (false, l, true) else if ToBoolD (takeE l 1).1 = (true, 0) then (true, (takeE l 1).2.2, true) else (false, [], false)
abbrev ExtT : Type := Int × Bool × List Int
abbrev xdft : ExtT := ((0 : Int), false, ([] : List Int))
abbrev EXT : Kd := .pair (.int .i64) (.pair .bool (.sl (.int .u8)))
def extA : List Int := [2, 5, 29]
def partsX (l : List EltT) : ExtT × Bool :=
  if (takeE l 6).2.1 = true ∧ (yesE (takeE l 6).2.2).2.2 = true ∧ (takeE (yesE (takeE l 6).2.2).2.1 4).2.1 = true ∧ (takeE (yesE (takeE l 6).2.2).2.1 4).2.2 = [] ∧ (lastO (takeE l 6).1 extA).2 = true then
    (((lastO (takeE l 6).1 extA).1, (yesE (takeE l 6).2.2).1, (takeE (yesE (takeE l 6).2.2).2.1 4).1), true) else (xdft, false)
def extP (x : ExtT) : List EltT := (6, encO (extA ++ [x.1])) :: ((if x.2.1 = true then [(1, [255])] else []) ++ [(4, x.2.2)])
def elX (x : ExtT) : EltT := (48, (extP x).flatMap putB)
def extB (x : ExtT) : List Int := putB (elX x)
def rdX (e : EltT) : ExtT × Bool := if e.1 = 48 ∧ (allD e.2).2.2 = 0 ∧ (partsX (allD e.2).1).2 = true then ((partsX (allD e.2).1).1, true) else (xdft, false)
def mayX (l : List ExtT) : Bool := decide (l ≠ []) && (decide (l.length ≤ 16) && ((l.all fun x => decide (x.2.2.length ≤ 65536)) && unlikeK (l.map fun x => x.1) 0 127))
def ExtsD (l : List ExtT) : List Int × Int := if mayX l = false then ([], 150) else (putB (48, l.flatMap extB), 0)
def ToExtsD (b : List Int) : List ExtT × Int :=
  if (insD b 48).2 = true ∧ ((insD b 48).1.all fun e => (rdX e).2) = true ∧ mayX ((insD b 48).1.map fun e => (rdX e).1) = true then ((insD b 48).1.map fun e => (rdX e).1, 0) else ([], 150)
theorem take_hit (t : Int) (c : List Int) (r : List EltT) : takeE ((t, c) :: r) t = (c, true, r) := by
  rw [takeE, if_neg (by simp)]; rfl
theorem take_miss {t u : Int} (c : List Int) (r : List EltT) (h : u ≠ t) : takeE ((u, c) :: r) t = ([], false, (u, c) :: r) := by
  rw [takeE, if_pos (.inr h)]
theorem take_true {l : List EltT} {t : Int} (h : (takeE l t).2.1 = true) : l = (t, (takeE l t).1) :: (takeE l t).2.2 := by
  unfold takeE at h ⊢
  split at h
  . cases h
  . rename_i c
    rw [if_neg c]
    match l, c with
    | [], c => exact absurd (.inl rfl) c
    | (u, d) :: r, c =>
      have : u = t := by
        by_cases e : u = t
        . exact e
        . exact absurd (.inr e) c
      subst this
      rfl
theorem take_false {l : List EltT} {t : Int} (h : (takeE l t).2.1 = false) : (takeE l t).2.2 = l := by
  unfold takeE at h ⊢
  split at h
  . rename_i c; rw [if_pos c]
  . cases h
theorem bool_true : ToBoolD [255] = (true, 0) := by decide
theorem true_bool {l : List Int} (h : ToBoolD l = (true, 0)) : l = [255] := by
  have := bool_of (l := l) (b := true) h.symm
  rw [← this]; rfl
theorem ext_parts {l : List EltT} (hb : ∀ e ∈ l, Bys e.2) (h : (partsX l).2 = true) : extP (partsX l).1 = l ∧ 0 ≤ (partsX l).1.1 := by
  unfold partsX at h ⊢
  split at h
  . rename_i c
    rw [if_pos c]
    obtain ⟨c1, c2, c3, c4, c5⟩ := c
    have e1 := take_true c1
    generalize ha : takeE l 6 = a at *
    obtain ⟨i, _, r⟩ := a
    simp only at *
    have hl := last_of (hb _ (by rw [e1]; exact List.mem_cons_self)) c5
    have hp := (may_args hl.1).2.2.1 (lastO i extA).1 (by simp)
    refine ⟨?_, hp.1⟩
    have e3 := take_true c3
    rw [c4] at e3
    have e2 : r = (if (yesE r).1 = true then [((1 : Int), [(255 : Int)])] else []) ++ (yesE r).2.1 := by
      unfold yesE at c2 ⊢
      split at c2
      . rename_i q
        rw [if_pos q]; rfl
      . rename_i q
        split at c2
        . rename_i q2
          rw [if_neg q, if_pos q2]
          have := take_true (l := r) (t := 1) (by simpa using q)
          rw [true_bool q2] at this
          exact this
        . cases c2
    show (6, encO (extA ++ [(lastO i extA).1])) :: ((if (yesE r).1 = true then [((1 : Int), [(255 : Int)])] else []) ++ [((4 : Int), (takeE (yesE r).2.1 4).1)]) = l
    rw [hl.2, ← e3, ← e2]
    exact e1.symm
  . cases h
theorem encO_len (l : List Int) : (encO l).length ≤ 5 + 5 * l.length := by
  have := encP_len l l.length
  rwa [encP_all (Nat.le_refl _)] at this
theorem el_rd {e : EltT} (hb : Bys e.2) (h : (rdX e).2 = true) : elX (rdX e).1 = e ∧ extP (rdX e).1 = (allD e.2).1 ∧ (allD e.2).2.2 = 0 := by
  unfold rdX at h ⊢
  split at h
  . rename_i c
    rw [if_pos c]
    obtain ⟨c1, c2, c3⟩ := c
    have hf := flat_all hb c2
    have hB : ∀ y ∈ (allD e.2).1, Bys y.2 := fun y hy z hz => hb z (by
      rw [hf.1]
      refine List.mem_flatMap.2 ⟨y, hy, ?_⟩
      rw [putB]
      exact List.mem_cons_of_mem _ (List.mem_append_right _ hz))
    have hp := (ext_parts hB c3).1
    refine ⟨?_, hp, c2⟩
    show (48, (extP (partsX (allD e.2).1).1).flatMap putB) = e
    rw [hp, ← hf.1, ← c1]
  . cases h
theorem mayX_args {l : List ExtT} (h : mayX l = true) : l ≠ [] ∧ l.length ≤ 16 ∧ (∀ x ∈ l, x.2.2.length ≤ 65536 ∧ 0 ≤ x.1 ∧ x.1 ≤ 127) := by
  simp only [mayX, Bool.and_eq_true, decide_eq_true_eq] at h
  obtain ⟨h1, h2, h3, h4⟩ := h
  refine ⟨h1, h2, fun x hx => ⟨by simpa using List.all_eq_true.1 h3 x hx, ?_⟩⟩
  exact unlike_in h4 x.1 (List.mem_map.2 ⟨x, hx, rfl⟩)
def rowL (e : EltT) : List EltT := (rowD e.2).1.map (·.2)
def gX (e : EltT) : ExtT := (lastL ((rowL e).getD 0 edft).2, decide ((rowL e).length = 3), ((rowL e).getD ((rowL e).length - 1) edft).2)
def few (e : EltT) : Bool := decide (2 ≤ (rowL e).length) && decide ((rowL e).length ≤ 3)
theorem guess_ext {e : EltT} {x : ExtT} (h : rowL e = extP x) (hm : mayO (extA ++ [x.1]) = true) : few e = true ∧ gX e = x := by
  obtain ⟨n, c, v⟩ := x
  have hl := (last_enc (a := extA) hm).2
  unfold few gX
  rw [h]
  cases c with
  | false =>
    refine ⟨rfl, ?_⟩
    show (lastL (encO (extA ++ [n])), false, v) = _
    rw [hl]
  | true =>
    refine ⟨rfl, ?_⟩
    show (lastL (encO (extA ++ [n])), true, v) = _
    rw [hl]
theorem exts_once {b : List Int} {l : List ExtT} (hb : Bys b) (h : ToExtsD b = (l, 0)) : ExtsD l = (b, 0) ∧ (insL b).all few = true ∧ l = (insL b).map gX := by
  unfold ToExtsD at h
  split at h
  . rename_i c
    obtain ⟨c1, c2, c3⟩ := c
    obtain ⟨e, _⟩ := Prod.mk.inj h
    subst e
    have hi := ins_of hb c1
    have hel : ∀ e ∈ (insD b 48).1, elX (rdX e).1 = e ∧ extP (rdX e).1 = (allD e.2).1 ∧ (allD e.2).2.2 = 0 := fun e he => el_rd (hi.2.2 e he) (List.all_eq_true.1 c2 e he)
    have hg : ∀ e ∈ (insD b 48).1, few e = true ∧ gX e = (rdX e).1 := fun e he => by
      obtain ⟨h1, h2, h3⟩ := hel e he
      have hm := (mayX_args c3).2.2 (rdX e).1 (List.mem_map.2 ⟨e, he, rfl⟩)
      refine guess_ext (by rw [rowL, all_row h3]; exact h2.symm) ?_
      simp [mayO, inArc, extA]
      omega
    refine ⟨?_, ?_, ?_⟩
    . rw [ExtsD, if_neg (by rw [c3]; decide)]
      have : ((insD b 48).1.map fun e => (rdX e).1).flatMap extB = (insD b 48).1.flatMap putB := by
        show ((insD b 48).1.map fun e => (rdX e).1).flatMap (fun x => putB (elX x)) = _
        rw [flat_map_put, List.map_map]
        have : (insD b 48).1.map (elX ∘ fun e => (rdX e).1) = (insD b 48).1 := by
          conv => rhs; rw [← List.map_id (insD b 48).1]
          exact List.map_congr_left fun x hx => (hel x hx).1
        rw [this]
      rw [this, hi.1]
    . rw [insL_of c1]
      exact List.all_eq_true.2 fun e he => (hg e he).1
    . rw [insL_of c1]
      exact List.map_congr_left fun e he => (hg e he).2.symm
  . cases h
def mayTr (t : GenT) : Bool := mayT t.1 t.2
def elT (t : GenT) : EltT := (48, genB t)
def subs (tag : Int) (l : List GenT) : List EltT := if l = [] then [] else [(tag, l.flatMap fun t => putB (elT t))]
def badTr (t : List GenT × List GenT) : Bool := decide (16 < t.1.length) || (decide (16 < t.2.length) || (!(t.1.all mayTr) || (!(t.2.all mayTr) || (decide (t.1 = []) && decide (t.2 = [])))))
def treesB (t : List GenT × List GenT) : List Int := putB (48, (subs 160 t.1 ++ subs 161 t.2).flatMap putB)
def TreesD (t : List GenT × List GenT) : List Int × Int := if badTr t = true then ([], 150) else (treesB t, 0)
def rdT (e : EltT) : GenT × Bool := if e.1 = 48 ∧ (oneD e.2).2 = 0 ∧ okE (oneD e.2).1 = true ∧ mayTr (genE (oneD e.2).1) = true then (genE (oneD e.2).1, true) else (gdft, false)
def rdS (l : List EltT) (tag : Int) : List GenT × List EltT × Bool :=
  if (takeE l tag).2.1 = false then ([], l, true)
  else if (allD (takeE l tag).1).2.2 = 0 ∧ (allD (takeE l tag).1).1 ≠ [] ∧ (allD (takeE l tag).1).1.length ≤ 16 ∧ ((allD (takeE l tag).1).1.all fun e => (rdT e).2) = true then
    ((allD (takeE l tag).1).1.map fun e => (rdT e).1, (takeE l tag).2.2, true) else ([], [], false)
def rdTs (l : List EltT) : (List GenT × List GenT) × Bool :=
  if (rdS l 160).2.2 = true ∧ (rdS (rdS l 160).2.1 161).2.2 = true ∧ (rdS (rdS l 160).2.1 161).2.1 = [] ∧ ¬ ((rdS l 160).1 = [] ∧ (rdS (rdS l 160).2.1 161).1 = []) then (((rdS l 160).1, (rdS (rdS l 160).2.1 161).1), true) else (([], []), false)
def ToTreesD (b : List Int) : (List GenT × List GenT) × Int := if (insD b 48).2 = true ∧ (rdTs (insD b 48).1).2 = true then ((rdTs (insD b 48).1).1, 0) else (([], []), 150)
theorem mayTr_kind {t : GenT} (h : mayTr t = true) : kindG t.1 := by
  unfold mayTr mayT at h
  by_cases h1 : t.1 = 1
  . exact .inl h1
  by_cases h2 : t.1 = 2
  . exact .inr (.inl h2)
  by_cases h4 : t.1 = 4
  . exact .inr (.inr (.inl h4))
  by_cases h7 : t.1 = 7
  . exact .inr (.inr (.inr h7))
  rw [if_neg h1, if_neg h2, if_neg h4, if_neg h7] at h
  cases h
def okTr (l : List GenT) : Bool := decide (l.length ≤ 16) && l.all mayTr
theorem el_rdT {e : EltT} (hb : Bys e.2) (h : (rdT e).2 = true) : elT (rdT e).1 = e ∧ mayTr (rdT e).1 = true ∧ (takeD e.2).1 = elG (rdT e).1 := by
  unfold rdT at h ⊢
  split at h
  . rename_i c
    rw [if_pos c]
    obtain ⟨c1, c2, c3, c4⟩ := c
    have h1 := el_gen c3
    refine ⟨?_, c4, ?_⟩
    . show (48, putB (elG (genE (oneD e.2).1))) = e
      rw [h1, ← (one_back hb c2).2.2, ← c1]
    . rw [one_take c2, h1]
  . cases h
theorem badTr_no {t : List GenT × List GenT} (h : ¬ badTr t = true) : t.1.length ≤ 16 ∧ t.2.length ≤ 16 ∧ (∀ x ∈ t.1, mayTr x = true) ∧ (∀ x ∈ t.2, mayTr x = true) ∧ ¬ (t.1 = [] ∧ t.2 = []) := by
  have h : badTr t = false := by cases hh : badTr t <;> simp_all
  simp only [badTr, Bool.or_eq_false_iff, decide_eq_false_iff_not, Bool.not_eq_false', Bool.and_eq_false_iff] at h
  obtain ⟨h1, h2, h3, h4, h5⟩ := h
  refine ⟨by omega, by omega, fun x hx => List.all_eq_true.1 h3 x hx, fun x hx => List.all_eq_true.1 h4 x hx, ?_⟩
  rintro ⟨e1, e2⟩
  rcases h5 with h5 | h5
  . exact h5 e1
  . exact h5 e2
theorem no_badTr {t : List GenT × List GenT} (h1 : t.1.length ≤ 16) (h2 : t.2.length ≤ 16) (h3 : ∀ x ∈ t.1, mayTr x = true) (h4 : ∀ x ∈ t.2, mayTr x = true) (h5 : ¬ (t.1 = [] ∧ t.2 = [])) : badTr t = false := by
  simp only [badTr, Bool.or_eq_false_iff, decide_eq_false_iff_not, Bool.not_eq_false', Bool.and_eq_false_iff]
  refine ⟨by omega, by omega, List.all_eq_true.2 h3, List.all_eq_true.2 h4, ?_⟩
  by_cases e : t.1 = []
  . exact .inr fun e2 => h5 ⟨e, e2⟩
  . exact .inl e
theorem subs_rdS {tag : Int} {l : List EltT} (hb : ∀ e ∈ l, Bys e.2) (h : (rdS l tag).2.2 = true) : l = subs tag (rdS l tag).1 ++ (rdS l tag).2.1 ∧ (rdS l tag).1.length ≤ 16 ∧ (∀ x ∈ (rdS l tag).1, mayTr x = true) ∧
    ∀ e ∈ subs tag (rdS l tag).1, (rowL e).map (fun e => genE (takeD e.2).1) = (rdS l tag).1 := by
  unfold rdS at h ⊢
  split at h
  . rename_i c
    rw [if_pos c]
    exact ⟨rfl, Nat.zero_le _, fun x hx => by (cases hx), fun e he => by (cases he)⟩
  . rename_i c
    split at h
    . rename_i c2
      rw [if_neg c, if_pos c2]
      obtain ⟨c1, c2, c3, c4⟩ := c2
      have e1 := take_true (l := l) (t := tag) (by simpa using c)
      generalize takeE l tag = a at *
      obtain ⟨q, _, r⟩ := a
      simp only at *
      have hq : Bys q := hb (tag, q) (by rw [e1]; exact List.mem_cons_self)
      have hf := flat_all hq c1
      have hB : ∀ y ∈ (allD q).1, Bys y.2 := fun y hy z hz => hq z (by
        rw [hf.1]
        refine List.mem_flatMap.2 ⟨y, hy, ?_⟩
        rw [putB]
        exact List.mem_cons_of_mem _ (List.mem_append_right _ hz))
      have hel : ∀ e ∈ (allD q).1, elT (rdT e).1 = e ∧ mayTr (rdT e).1 = true ∧ (takeD e.2).1 = elG (rdT e).1 := fun e he => el_rdT (hB e he) (List.all_eq_true.1 c4 e he)
      have hmap : ((allD q).1.map fun e => (rdT e).1).flatMap (fun t => putB (elT t)) = q := by
        rw [flat_map_put, List.map_map]
        have : (allD q).1.map (elT ∘ fun e => (rdT e).1) = (allD q).1 := by
          conv => rhs; rw [← List.map_id (allD q).1]
          exact List.map_congr_left fun x hx => (hel x hx).1
        rw [this, ← hf.1]
      have hs : subs tag ((allD q).1.map fun e => (rdT e).1) = [(tag, q)] := by
        rw [subs, if_neg (by simpa using c2), hmap]
      rw [hs]
      refine ⟨e1, by simpa using c3, fun x hx => ?_, fun e he => ?_⟩
      . obtain ⟨y, hy, rfl⟩ := List.mem_map.1 hx
        exact (hel y hy).2.1
      . simp only [List.mem_cons, List.not_mem_nil, or_false] at he
        subst he
        rw [rowL, all_row c1]
        refine List.map_congr_left fun y hy => ?_
        rw [(hel y hy).2.2]
        exact (gen_el (mayTr_kind (hel y hy).2.1)).1
    . cases h
theorem subs_tag {tag : Int} {l : List GenT} : ∀ e ∈ subs tag l, e.1 = tag := by
  intro e he
  unfold subs at he
  split at he
  . cases he
  . simp only [List.mem_cons, List.not_mem_nil, or_false] at he
    rw [he]
def gT (e : EltT) : List GenT := (rowL e).map fun e => genE (takeD e.2).1
def guessP (l : List EltT) : List GenT := l.flatMap fun e => if e.1 = 160 then gT e else []
def guessX (l : List EltT) : List GenT := l.flatMap fun e => if e.1 = 160 then [] else gT e
theorem flat_subs {tag : Int} {l : List GenT} {f : EltT → List GenT} (h : ∀ e ∈ subs tag l, f e = l) : (subs tag l).flatMap f = l := by
  unfold subs at h ⊢
  split
  . rename_i c; rw [c]; rfl
  . rename_i c
    rw [if_neg c] at h
    simp only [List.flatMap_cons, List.flatMap_nil, List.append_nil]
    exact h _ List.mem_cons_self
theorem flat_none {l : List EltT} {f : EltT → List GenT} (h : ∀ e ∈ l, f e = []) : l.flatMap f = [] := by
  induction l with
  | nil => rfl
  | cons a l ih =>
    rw [List.flatMap_cons, h a List.mem_cons_self, ih fun e he => h e (List.mem_cons_of_mem _ he)]; rfl
theorem trees_once {b : List Int} {t : List GenT × List GenT} (hb : Bys b) (h : ToTreesD b = (t, 0)) : TreesD t = (b, 0) ∧ t = (guessP (insL b), guessX (insL b)) := by
  unfold ToTreesD at h
  split at h
  . rename_i c
    obtain ⟨c1, c2⟩ := c
    obtain ⟨e, _⟩ := Prod.mk.inj h
    subst e
    have hi := ins_of hb c1
    rw [insL_of c1]
    generalize (insD b 48).1 = l at *
    unfold rdTs at c2 ⊢
    split at c2
    . rename_i c
      rw [if_pos c]
      obtain ⟨d1, d2, d3, d4⟩ := c
      have s1 := subs_rdS hi.2.2 d1
      have hB : ∀ e ∈ (rdS l 160).2.1, Bys e.2 := fun e he => hi.2.2 e (by rw [s1.1]; exact List.mem_append_right _ he)
      have s2 := subs_rdS hB d2
      rw [d3, List.append_nil] at s2
      generalize hp : (rdS l 160).1 = p at *
      generalize hq : (rdS l 160).2.1 = q at *
      generalize hx : (rdS q 161).1 = x at *
      have hl : l = subs 160 p ++ subs 161 x := by rw [← s2.1]; exact s1.1
      refine ⟨?_, ?_⟩
      . rw [TreesD, if_neg (by rw [no_badTr (t := (p, x)) s1.2.1 s2.2.1 s1.2.2.1 s2.2.2.1 d4]; decide), treesB]
        simp only
        rw [← hl, hi.1]
      . have g1 : guessP l = p := by
          rw [guessP, hl, List.flatMap_append]
          rw [flat_subs (l := p) (fun e he => by rw [if_pos (subs_tag e he)]; exact s1.2.2.2 e he), flat_none (l := subs 161 x) (fun e he => by rw [if_neg (by rw [subs_tag e he]; decide)]), List.append_nil]
        have g2 : guessX l = x := by
          rw [guessX, hl, List.flatMap_append]
          rw [flat_subs (l := x) (fun e he => by rw [if_neg (by rw [subs_tag e he]; decide)]; exact s2.2.2.2 e he), flat_none (l := subs 160 p) (fun e he => by rw [if_pos (subs_tag e he)])]
          rfl
        rw [g1, g2]
    . cases c2
  . cases h
end Go.Pl
end
section
namespace Go.Pl
open Go.Vc
set_option linter.unusedVariables false
set_option linter.unusedSimpArgs false
theorem contD_len (b : List Int) (t : Int) : (contD b t).1.length ≤ b.length := by
  unfold contD
  split
  . exact oneD_len b
  . exact Nat.zero_le _
def basW (i : List EltT × Bool) : (Bool × Int) × Int :=
  if i.2 = false then ((false, 0), 150) else if (yesE i.1).2.2 = false then ((false, 0), 150)
  else if (takeE (yesE i.1).2.1 2).2.1 = true then
    (if (ToIntD (takeE (yesE i.1).2.1 2).1).2 = 0 ∧ (yesE i.1).1 = true ∧ 0 ≤ (ToIntD (takeE (yesE i.1).2.1 2).1).1 ∧ (ToIntD (takeE (yesE i.1).2.1 2).1).1 ≤ 100 ∧ (takeE (yesE i.1).2.1 2).2.2 = [] then (((yesE i.1).1, (ToIntD (takeE (yesE i.1).2.1 2).1).1), 0) else ((false, 0), 150))
  else (if (takeE (yesE i.1).2.1 2).2.2 = [] then (((yesE i.1).1, -1), 0) else ((false, 0), 150))
theorem basW_basE (l : List EltT) : basW (l, true) = if (basE l).2 = true then ((basE l).1, 0) else ((false, 0), 150) := by
  match l with
  | [] => decide
  | (t, c) :: r =>
    by_cases ht : t = 1
    . subst ht
      have hk : takeE ((1, c) :: r) 1 = (c, true, r) := take_hit _ _ _
      by_cases hc : c = [255]
      . subst hc
        have hy : yesE ((1, [255]) :: r) = (true, r, true) := by
          rw [yesE, hk, if_neg (by simp), if_pos bool_true]
        unfold basW
        simp only
        rw [hy]
        simp only
        rw [if_neg (by simp), if_neg (by simp)]
        match r with
        | [] => decide
        | (u, d) :: s =>
          by_cases hu : u = 2
          . subst hu
            have hp : takeE ((2, d) :: s) 2 = (d, true, s) := take_hit _ _ _
            rw [hp]
            simp only
            rw [if_pos (by first | rfl | trivial)]
            have hne : ((1 : Int), [(255 : Int)]) :: (2, d) :: s ≠ [] := by simp
            have hne2 : ((1 : Int), [(255 : Int)]) :: (2, d) :: s ≠ [(1, [255])] := by simp
            by_cases hs : s = []
            . subst hs
              by_cases hq : (ToIntD d).2 = 0 ∧ 0 ≤ (ToIntD d).1 ∧ (ToIntD d).1 ≤ 100
              . have hE : basE [(1, [255]), (2, d)] = ((true, (ToIntD d).1), true) := by
                  unfold basE
                  rw [if_neg hne, if_neg hne2]
                  exact if_pos ⟨rfl, rfl, rfl, hq⟩
                rw [hE, if_pos ⟨hq.1, by first | rfl | trivial, hq.2.1, hq.2.2, by first | rfl | trivial⟩]
                rfl
              . have hE : basE [(1, [255]), (2, d)] = ((false, 0), false) := by
                  unfold basE
                  rw [if_neg hne, if_neg hne2]
                  exact if_neg fun h => hq h.2.2.2
                rw [hE, if_neg (fun h => hq ⟨h.1, h.2.2.1, h.2.2.2.1⟩), if_neg (by simp)]
            . have hl : ¬ (((1 : Int), [(255 : Int)]) :: (2, d) :: s).length = 2 := fun h => hs (List.length_eq_zero_iff.1 (by simp only [List.length_cons] at h; omega))
              have hE : basE ((1, [255]) :: (2, d) :: s) = ((false, 0), false) := by
                unfold basE
                rw [if_neg hne, if_neg hne2]
                exact if_neg fun h => hl h.1
              rw [hE, if_neg (fun h => hs h.2.2.2.2), if_neg (by simp)]
          . have hp : takeE ((u, d) :: s) 2 = ([], false, (u, d) :: s) := take_miss _ _ hu
            rw [hp]
            simp only
            have hE : basE ((1, [255]) :: (u, d) :: s) = ((false, 0), false) := by
              unfold basE
              rw [if_neg (by simp), if_neg (by simp)]
              exact if_neg fun h => hu h.2.2.1
            rw [if_neg (by simp), if_neg (by simp), hE, if_neg (by simp)]
      . have hy : (yesE ((1, c) :: r)).2.2 = false := by
          rw [yesE, hk, if_neg (by simp), if_neg (fun h => hc (true_bool h))]
        unfold basW
        have hE : basE ((1, c) :: r) = ((false, 0), false) := by
          unfold basE
          rw [if_neg (by simp), if_neg (by simp [hc])]
          exact if_neg fun h => hc (Prod.mk.inj h.2.1).2
        rw [if_neg (by simp), if_pos hy, hE, if_neg (by simp)]
    . have hk : takeE ((t, c) :: r) 1 = ([], false, (t, c) :: r) := take_miss _ _ ht
      have hy : yesE ((t, c) :: r) = (false, (t, c) :: r, true) := by rw [yesE, hk, if_pos rfl]
      unfold basW
      simp only
      rw [hy]
      simp only
      rw [if_neg (by simp), if_neg (by simp)]
      have hb : basE ((t, c) :: r) = ((false, 0), false) := by
        unfold basE
        rw [if_neg (by simp), if_neg (by simp [ht])]
        exact if_neg fun h => ht (Prod.mk.inj h.2.1).1
      have hR : (if (basE ((t, c) :: r)).2 = true then ((basE ((t, c) :: r)).1, (0 : Int)) else ((false, 0), 150)) = ((false, 0), 150) := by
        rw [hb]; exact if_neg (by simp)
      rw [hR]
      by_cases h2 : t = 2
      . subst h2
        have hp : takeE ((2, c) :: r) 2 = (c, true, r) := take_hit _ _ _
        rw [hp]
        simp
      . have hp : takeE ((t, c) :: r) 2 = ([], false, (t, c) :: r) := take_miss _ _ h2
        rw [hp]
        simp
theorem toBasic_ins (b : List Int) : ToBasicD b = basW (insD b 48) := by
  unfold ToBasicD
  cases hc : (contD b 48).2 with
  | false =>
    rw [ins_none hc, if_neg (by simp), basW, if_pos rfl]
  | true =>
    rw [ins_cont hc]
    by_cases ha : (allD (contD b 48).1).2.2 = 0
    . rw [decide_eq_true ha, basW_basE]
      by_cases hb : (basE (allD (contD b 48).1).1).2 = true
      . rw [if_pos ⟨by first | rfl | trivial, ha, hb⟩, if_pos hb]
      . rw [if_neg (fun h => hb h.2.2), if_neg hb]
    . rw [if_neg (fun h => ha h.2.1), decide_eq_false ha, basW, if_pos rfl]
theorem basW_int {l : List EltT} {ca : Bool} {r q : List EltT} {p : List Int} {n f : Int} (h1 : yesE l = (ca, r, true)) (h2 : takeE r 2 = (p, true, q)) (h3 : ToIntD p = (n, f)) : basW (l, true) = if f = 0 ∧ ca = true ∧ 0 ≤ n ∧ n ≤ 100 ∧ q = [] then ((ca, n), 0) else ((false, 0), 150) := by
  simp [basW, h1, h2, h3]
theorem basW_no {l : List EltT} {ca : Bool} {r q : List EltT} {p : List Int} (h1 : yesE l = (ca, r, true)) (h2 : takeE r 2 = (p, false, q)) : basW (l, true) = if q = [] then ((ca, -1), 0) else ((false, 0), 150) := by
  simp [basW, h1, h2]
theorem basW_bad {l : List EltT} (h : (yesE l).2.2 = false) : basW (l, true) = ((false, 0), 150) := by
  simp [basW, h]
theorem basW_none {i : List EltT × Bool} (h : i.2 = false) : basW i = ((false, 0), 150) := by
  simp [basW, h]
end Go.Pl
end
