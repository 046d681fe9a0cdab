/- Texts of a verified walk, led together: Within, MapL. -/
import Derived.Test.YtgnlcpoeepfdoaaGreatDoorZV12
import Derived.Test.YtgnlcpoeepfdoaaGreatDoorZV06
import Derived.Lib.MapLaws
import Derived.Lib.TrimAscii
set_option linter.unusedVariables false
set_option linter.unusedSimpArgs false
section
namespace Go.Pl
open Go.Vc
set_option linter.unusedVariables false
set_option linter.unusedSimpArgs false
theorem splitA_sep (d : Int) (y : List Int) : ∀ p cur : List Int, splitA d cur (p ++ d :: y) = splitA d cur p ++ splitA d [] y
  | [], cur => by simp [splitA]
  | c :: p, cur => by
    rw [List.cons_append, splitA, splitA]
    split
    . rw [splitA_sep d y p []]; rfl
    . exact splitA_sep d y p _
theorem joinD_app (d : Int) (m : List (List Int)) (hm : m ≠ []) : ∀ l : List (List Int), l ≠ [] → joinD d (l ++ m) = joinD d l ++ d :: joinD d m
  | [], h => absurd rfl h
  | [w], _ => by
    cases m with
    | nil => exact absurd rfl hm
    | cons v ws => rfl
  | w :: v :: ws, _ => by
    have ih := joinD_app d m hm (v :: ws) (by simp)
    rw [List.cons_append, List.cons_append, joinD, joinD, ← List.cons_append, ih]
    simp
theorem labels_suffix (x y : List Int) : labelsD y <:+ labelsD x ↔ x = y ∨ (46 :: y) <:+ x := by
  constructor
  . rintro ⟨l, e⟩
    by_cases hl : l = []
    . subst hl
      rw [List.nil_append] at e
      exact .inl (split_inj e).symm
    . have h := congrArg (joinD 46) e
      have hx : joinD 46 (labelsD x) = x := split_join 46 x []
      have hy : joinD 46 (labelsD y) = y := split_join 46 y []
      rw [joinD_app 46 (labelsD y) (split_ne 46 y []) l hl, hx, hy] at h
      exact .inr ⟨joinD 46 l, h⟩
  . rintro (rfl | ⟨p, e⟩)
    . exact List.suffix_refl _
    . exact ⟨labelsD p, by rw [← e]; exact (splitA_sep 46 y p []).symm⟩
def belowD (a b : List Int) : Bool := dnsD a && (dnsD b && (decide (lowD a = lowD b) || decide ((46 :: lowD b) <:+ lowD a)))
theorem below_labels (a b : List Int) : belowD a b = (dnsD a && (dnsD b && decide (labelsD (lowD b) <:+ labelsD (lowD a)))) := by
  unfold belowD
  have h := labels_suffix (lowD a) (lowD b)
  congr 2
  rw [Bool.eq_iff_iff]
  simp only [Bool.or_eq_true, decide_eq_true_eq]
  exact h.symm
theorem below_both (a b : List Int) : (belowD a b && belowD b a) = (matchD a b && dnsD a) := by
  rw [below_labels, below_labels, Bool.eq_iff_iff]
  unfold matchD
  simp only [Bool.and_eq_true, decide_eq_true_eq]
  constructor
  . rintro ⟨⟨ha, hb, h1⟩, _, _, h2⟩
    refine ⟨⟨hb, ?_⟩, ha⟩
    rw [if_pos ha]
    have := h1.eq_of_length_le h2.length_le
    exact decide_eq_true (split_inj this).symm
  . rintro ⟨⟨hb, h⟩, ha⟩
    rw [if_pos ha] at h
    have h := of_decide_eq_true h
    rw [h]
    exact ⟨⟨ha, hb, List.suffix_refl _⟩, hb, ha, List.suffix_refl _⟩
end Go.Pl
end
section
namespace Go.Pl
open Go.Vc
set_option linter.unusedVariables false
set_option linter.unusedSimpArgs false
theorem map_low : ∀ (l : List UInt8), (∀ b ∈ l, b.toNat < 128) → (Lib.mapD smallD l).map (fun b => (b.toNat : Int)) = lowD (l.map fun b => (b.toNat : Int))
  | [], _ => rfl
  | b :: l, h => by
    have hb := h b (by simp)
    have hs : smallD (b.toNat : Int) = if 65 ≤ (b.toNat : Int) ∧ (b.toNat : Int) ≤ 90 then (b.toNat : Int) + 32 else (b.toNat : Int) := rfl
    have hr : 0 ≤ smallD (b.toNat : Int) ∧ smallD (b.toNat : Int) ≤ 127 := by rw [hs]; split <;> omega
    rw [Lib.mapD_step smallD (b :: l) (by simp), Lib.decodeL_ascii b l hb]
    simp only
    rw [if_pos hr.1, Lib.encodeRune, Lib.encodeRuneZ_one hr.1 hr.2, List.drop_succ_cons, List.drop_zero, List.map_append, map_low l (fun c hc => h c (by simp [hc]))]
    have e : ((smallD (b.toNat : Int)).toNat.toUInt8.toNat : Int) = smallD (b.toNat : Int) := by
      generalize smallD (b.toNat : Int) = z at hr
      have : z.toNat.toUInt8.toNat = z.toNat := by
        rw [Nat.toUInt8, UInt8.toNat_ofNat']
        omega
      omega
    rw [List.map_cons, List.map_nil, List.map_cons, List.map_nil, e]
    rfl
theorem map_low_bs (s : ByteArray) (h : ∀ c ∈ bs s, c < 128) : bs ⟨(Lib.mapD smallD s.data.toList).toArray⟩ = lowD (bs s) := by
  unfold bs
  rw [List.toList_toArray]
  refine map_low _ fun b hb => ?_
  have := h (b.toNat : Int) (by simp only [bs, List.mem_map]; exact ⟨b, hb, rfl⟩)
  omega
theorem utf8_gl {gl : Gl} {w : World} {F : Nat → Prop} {g1 g2 : Nat} (h : GlOk gl w F) (h1 : gl.lookup g1 = some (.arr U8 Lib.firstTab)) (h2 : gl.lookup g2 = some (.arr (.pair U8 U8) accTab)) : Lib.Utf8Tabs g1 g2 w := by
  obtain ⟨_, _, a1⟩ := h _ _ h1
  obtain ⟨_, _, a2⟩ := h _ _ h2
  refine ⟨fun c hc => ?_, fun i hi => ?_⟩
  . obtain ⟨ecs, ⟨e, _⟩, h4⟩ := a1 c (Lib.firstT c : Int) (by simp [Lib.firstTab, hc])
    have := h4 0 _ (by rw [e]; rfl)
    rw [addr_add] at this
    simpa [Kd.sz] using this
  . obtain ⟨ecs, ⟨c1, c2, e, ⟨e1, _⟩, ⟨e2, _⟩⟩, h4⟩ := a2 i ((Lib.accLo i : Int), (Lib.accHi i : Int)) (by simp [accTab, hi])
    have k0 := h4 0 _ (by rw [e, e1]; rfl)
    have k1 := h4 1 _ (by rw [e, e1, e2]; rfl)
    rw [addr_add] at k0 k1
    have hz : (Kd.pair U8 U8).sz = 2 := rfl
    rw [hz] at k0 k1
    refine ⟨?_, ?_⟩
    . rw [show 2 * i = 0 + (i * 2 + 0) by omega]; exact k0
    . rw [show 2 * i + 1 = 0 + (i * 2 + 1) by omega]; exact k1
def sufD (q l : List Int) : Bool := decide (q <:+ l)
theorem suf_drop {q l : List Int} (h : q.length ≤ l.length) : decide (l.drop (l.length - q.length) = q) = sufD q l := by
  unfold sufD
  rw [Bool.eq_iff_iff, decide_eq_true_eq, decide_eq_true_eq]
  constructor
  . intro e
    have := List.take_append_drop (l.length - q.length) l
    rw [e] at this
    exact ⟨_, this⟩
  . rintro ⟨p, rfl⟩; simp
theorem suf_not {q l : List Int} (h : ¬ q.length ≤ l.length) : sufD q l = false := by
  unfold sufD
  rw [decide_eq_false_iff_not]
  rintro ⟨p, rfl⟩; simp at h
theorem letters_ascii {s : List Int} (hb : Bys s) (h : dnsD s = true) : ∀ c ∈ s, c < 128 := by
  unfold dnsD at h
  simp only [Bool.and_eq_true, List.all_eq_true] at h
  have hj : joinD 46 (labelsD s) = s := split_join 46 s []
  have key : ∀ (l : List (List Int)), (∀ w ∈ l, labelD w = true) → ∀ c ∈ joinD 46 l, c < 128 := by
    intro l
    induction l with
    | nil => intro _ c hc; cases hc
    | cons w l ih =>
      intro hl c hc
      have hw : ∀ c ∈ w, c < 128 := by
        have := hl w (by simp)
        unfold labelD at this
        simp only [Bool.and_eq_true, List.all_eq_true] at this
        intro c hc
        have hcc := this.2 c hc
        simp only [lcharD, letterD, digitD, Bool.or_eq_true, decide_eq_true_eq] at hcc
        omega
      cases l with
      | nil => exact hw c hc
      | cons v r =>
        rw [joinD] at hc
        rcases List.mem_append.1 hc with hc | hc
        . exact hw c hc
        . rcases List.mem_cons.1 hc with rfl | hc
          . decide
          . exact ih (fun w hw => hl w (by simp [hw])) c hc
  rw [← hj]
  exact key _ h.2.1
end Go.Pl
end
