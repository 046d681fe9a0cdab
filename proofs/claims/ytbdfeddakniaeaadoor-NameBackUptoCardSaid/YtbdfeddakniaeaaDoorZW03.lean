/- Texts of a verified walk, led together: NampA, NampW. -/
import Derived.Test.YtbdfeddakniaeaaDoorZW02
import Derived.Test.YtbdfeddakniaeaaDoorZV08
set_option linter.unusedVariables false
set_option linter.unusedSimpArgs false
section
namespace Go.Proofs.YtbdfeddakniaeaaDoor
open Go Go.Vc Go.Pl Go.Proofs
def c_name_plain : Con := { args := [.dat .str], res := [.dat .str, .dat .bool], pre := fun x => x.1.length ≤ 1000000000, post := fun x y => (y.1, y.2.1) = PlainD x.1 }
def c_name_typeOf : Con := { args := [.dat .str], res := [.dat I64], pre := fun _ => True, post := fun x y => y.1 = typK x.1 }
def c_name_Parse : Con := { args := [.dat .str], res := [.own 58 AT, .dat I64], pre := fun x => x.1.length ≤ 10000000, post := fun x y => parN x.1 y.1 y.2.1 = true }
end Go.Proofs.YtbdfeddakniaeaaDoor
end
section
namespace Go.Proofs.YtbdfeddakniaeaaDoor
open Go Go.Vc Go.Pl Go.Proofs
set_option linter.unusedVariables false
set_option linter.unusedSimpArgs false
abbrev q16 := (Int × Int × Unit -> Unit -> Prop)
abbrev q17 := (Int × Int × Unit -> Unit -> Nat)
abbrev q177 (p0 : Int × Bool × List Int × Unit) := (Int.toNat (wrZ (p0.1 + (1 : Int))))
abbrev q83 (p0 : Int × Bool × List Int × Unit) (p1 : q4) := (bif decide (wrZ (p0.1 + (1 : Int)) = (lnZ p1.1)) then true else bif decide (List.getD p1.1 (q177 p0) q172 ≠ (92 : Int)) then
  decide (List.getD p1.1 (q177 p0) q172 ≠ (44 : Int)) else false)
abbrev q84 (p0 : Int × Bool × List Int × Unit) (p1 : q4) := ((decide (wrZ (p0.1 + (1 : Int)) = (lnZ p1.1)) == false && decide (wrZ (p0.1 + (1 : Int)) = (lnZ p1.1)) == false) = true ->
  decide (List.getD p1.1 (q177 p0) q172 ≠ (92 : Int)) = true -> True)
abbrev q85 (p0 : Int × Bool × List Int × Unit) (p1 : q4) := (decide (wrZ (p0.1 + (1 : Int)) = (lnZ p1.1)) == false && decide (wrZ (p0.1 + (1 : Int)) = (lnZ p1.1)) == false && decide
  (List.getD p1.1 (q177 p0) q172 ≠ (92 : Int)) == true)
abbrev q86 (p0 : Int × Bool × List Int × Unit) (p1 : q4) := (decide (wrZ (p0.1 + (1 : Int)) = (lnZ p1.1)) == false && decide (wrZ (p0.1 + (1 : Int)) = (lnZ p1.1)) == false)
abbrev q87 (p0 : q4) (p1 : Int × Bool × List Int × Unit) := (List.getD p0.1 (q177 p1) q172 ≠ (92 : Int))
abbrev q88 (p0 : Int × Bool × List Int × Unit) (p1 : q4) := (wrZ (p0.1 + (1 : Int)) = (lnZ p1.1))
abbrev q89 (p0 : q4) := (wyZ p0.1 /\ True)
abbrev q90 (p0 : q5) := (wiZ p0.1 /\ wiZ p0.2.1 /\ True)
abbrev q91 (p0 : q5) := (p0.1 + (1 : Int))
noncomputable def i105 : CallSem → CallSem := vcSeq (mkEnv ty [] [] [] [0, 1, 3, 4, 8, 13, 14, 18, 26]) {} Tryd.f105.ntmps Tryd.f105.results.toList (bodyOf Tryd.f105)
theorem i105_ok : SeqOk Tryd.prog GL 105 i105 := seq_ok {} (mkEnv_ok (gl := GL) (l := []) (q := []) (d := []) _ tyOk (by kernel_rfl) trivial trivial trivial) (by kernel_rfl) (by kernel_rfl)
noncomputable def i46 : CallSem := vcFn (mkEnv ty [] [] [] [0, 1, 2]) {} Tryd.f46.ntmps Tryd.f46.results.toList (bodyOf Tryd.f46)
theorem i46_ok : CallOk Tryd.prog GL 46 i46 := inl_ok {} (mkEnv_ok (gl := GL) (l := []) (q := []) (d := []) _ tyOk (by kernel_rfl) trivial trivial trivial) (by kernel_rfl) (by kernel_rfl)
def t48 : Prop :=
  ∀ (x : q4), (q45 x) -> List.length x.1 <= q69 -> ∃ (I : Int × Bool × List Int × Unit -> List Int × Unit -> Prop), ∃ (μ : Int × Bool × List Int × Unit -> List Int × Unit -> Nat), (x.1 = x.1
  /\ I (q25, false, bs { data := #[] }, ()) ([], ())) /\ ∀ (y : Int × Bool × List Int × Unit) (z : q4), (wiZ y.1 /\ wbZ y.2.1 /\ wsZ y.2.2.1 /\ True) -> (q89 z) -> I y z -> (decide (y.1 <
  (lnZ x.1)) = true -> (q25 <= y.1 /\ y.1 < (lnZ x.1)) /\ (decide (List.getD x.1 (Int.toNat y.1) q25 = (92 : Int)) = true -> (decide (q88 y x) = false -> True) /\ (decide (q88 y x) = false ->
  True) /\ (decide (q88 y x) = false -> (decide (q88 y x) == false) = true /\ (decide (q88 y x) == false) = true /\ (q25 <= wrZ (y.1 + (1 : Int)) /\ wrZ (y.1 + (1 : Int)) < (lnZ x.1)) /\
  True) /\ (decide (q88 y x) = false -> (decide (q88 y x) == false) = true /\ True) /\ (decide (q88 y x) = false -> True) /\ (q84 y x) /\ (q84 y x) /\ ((q86 y x) = true -> decide (q87 x y) =
  true -> (q85 y x) = true /\ (q85 y x) = true /\ (q25 <= wrZ (y.1 + (1 : Int)) /\ wrZ (y.1 + (1 : Int)) < (lnZ x.1)) /\ True) /\ ((q86 y x) = true -> decide (q87 x y) = true -> (q85 y x) =
  true /\ True) /\ (decide (q88 y x) = false -> (q86 y x) = true /\ (decide (q87 x y) = true -> (q85 y x) = true) /\ True) /\ (decide (q88 y x) = false -> (decide (q88 y x) == false) = true)
  /\ ((q83 y x) = true -> (bs { data := #[] }, false) = PlainD x.1) /\ ((q83 y x) = false -> (q25 <= wrZ (y.1 + (1 : Int)) /\ wrZ (y.1 + (1 : Int)) < (lnZ x.1)) /\ q48 < q24 /\ (List.length
  z.1 + List.length [List.getD x.1 (q177 y) q25]) * q24 <= q64 /\ List.length z.1 + List.length [List.getD x.1 (q177 y) q25] <= q63 /\ x.1 = x.1 /\ I (wrZ (wrZ (y.1 + (1 : Int)) + q47),
  y.2.1, y.2.2.1, ()) (z.1 ++ [List.getD x.1 (q177 y) q25], ()) /\ μ (wrZ (wrZ (y.1 + (1 : Int)) + q47), y.2.1, y.2.2.1, ()) (z.1 ++ [List.getD x.1 (q177 y) q25], ()) < μ y z)) /\ (decide
  (List.getD x.1 (Int.toNat y.1) q25 = (92 : Int)) = false -> (q25 <= y.1 /\ y.1 < (lnZ x.1)) /\ q48 < q24 /\ (List.length z.1 + List.length [List.getD x.1 (Int.toNat y.1) q25]) * q24 <= q64
  /\ List.length z.1 + List.length [List.getD x.1 (Int.toNat y.1) q25] <= q63 /\ x.1 = x.1 /\ I (wrZ (y.1 + (1 : Int)), y.2.1, y.2.2.1, ()) (z.1 ++ [List.getD x.1 (Int.toNat y.1) q25], ()) /\
  μ (wrZ (y.1 + (1 : Int)), y.2.1, y.2.2.1, ()) (z.1 ++ [List.getD x.1 (Int.toNat y.1) q25], ()) < μ y z)) /\ (decide (y.1 < (lnZ x.1)) = false -> (z.1, true) = PlainD x.1)
theorem e48 : t48 = Con.vc c_name_plain GL (mkEnv ty [] [] [] [0, 2, 3, 4, 5, 9, 15, 33]) {} Tryd.f48.ntmps Tryd.f48.results.toList (bodyOf Tryd.f48) := by kernel_rfl
theorem k48 : t48 := by
  unfold t48
  delta q4 q45 q69 q25 wiZ wbZ wsZ q89 lnZ q88 wrZ q84 q86 q87 q85 q83 q48 q24 q177 q64 q63 q47 wyZ q172
  rintro ⟨s, _⟩ hx hp
  have hp : s.length ≤ 1000000000 := hp
  try dsimp +instances only [dft_int, dft_sl, dft_str]
  simp only [true_and, and_true, eq_self_iff_true, implies_true, reduceCtorEq, false_implies, true_implies, decide_eq_true_eq, decide_eq_false_iff_not, beq_self_eq_true, Bool.not_eq_true', ne_eq, Decidable.not_not, List.nil_append, List.length_singleton, List.length_cons, List.length_nil, Nat.zero_add, Nat.add_zero, Nat.mul_one, and_self, beq_iff_eq, Bool.not_true, Bool.not_false, Bool.not_eq_false', Bool.cond_false_right, Bool.and_eq_true, imp_self, Bool.not_eq_true, Bool.cond_true_left, Bool.or_eq_true]
  rw [bs_nil]
  refine ⟨fun y z => 0 ≤ y.1 ∧ y.1 ≤ s.length ∧ (z.1 : List Int).length ≤ y.1 ∧ plainO s = (plainO (s.drop y.1.toNat)).map (z.1 ++ ·), fun y _ => ((s.length : Int) - y.1).toNat, ⟨Int.le_refl 0, by simp only; omega, by simp, by simp⟩, ?_⟩
  rintro ⟨i, q, t, _⟩ ⟨b, _⟩ _ _ ⟨i0, i1, hb, e⟩
  simp only at i0 i1 hb e ⊢
  refine ⟨fun hlt => ⟨⟨i0, hlt⟩, fun hc => ?_, fun hc => ?_⟩, fun hge => ?_⟩
  . rw [wrapK (i + 1) (by omega) (by omega)]
    rw [drop_cons s i.toNat (by omega), hc] at e
    refine ⟨fun h => ⟨h, h, by omega, by omega⟩, fun h h2 => ⟨⟨h, h2⟩, ⟨h, h2⟩, by omega, by omega⟩, fun h h2 => ⟨h, h2⟩, fun h => ⟨h, fun h2 => ⟨h, h2⟩⟩, fun h => ?_, fun h => ?_⟩
    . rw [plainD_none]
      rw [e]
      by_cases hl : i + 1 = s.length
      . rw [List.drop_of_length_le (by omega)]; rfl
      . have h := h.resolve_left hl
        rw [drop_cons s (i.toNat + 1) (by omega), show i.toNat + 1 = (i + 1).toNat by omega, plainO, if_pos rfl, if_neg (fun hd => hd.elim h.1 h.2)]
        rfl
    . simp only [Bool.or_eq_false_iff, decide_eq_false_iff_not, Bool.and_eq_false_iff, Decidable.not_not] at h
      rw [wrapK (i + 1 + 1) (by omega) (by omega)]
      refine ⟨⟨by omega, by omega⟩, by decide, by omega, by omega, ⟨by omega, by omega, by rw [List.length_append, List.length_singleton]; omega, ?_⟩, by omega⟩
      rw [drop_cons s (i.toNat + 1) (by omega), show i.toNat + 1 = (i + 1).toNat by omega, plainO, if_pos rfl, if_pos h.2] at e
      rw [e, show (i + 1).toNat + 1 = (i + 1 + 1).toNat by omega]
      cases plainO (s.drop (i + 1 + 1).toNat) <;> simp
  . rw [wrapK (i + 1) (by omega) (by omega)]
    refine ⟨⟨i0, hlt⟩, by decide, by omega, by omega, ⟨by omega, by omega, by rw [List.length_append, List.length_singleton]; omega, ?_⟩, by omega⟩
    rw [drop_cons s i.toNat (by omega), plain_one hc] at e
    rw [e, show i.toNat + 1 = (i + 1).toNat by omega]
    cases plainO (s.drop (i + 1).toNat) <;> simp
  . rw [List.drop_of_length_le (by omega)] at e
    rw [plainD_some (v := b) (by rw [e]; simp [plainO])]
theorem h48 : c_name_plain.ok Tryd.prog GL 48 := con_ok (H := {}) (mkEnv_ok (gl := GL) (l := []) (q := []) (d := []) _ tyOk (by kernel_rfl) trivial trivial trivial) (by kernel_rfl) (by kernel_rfl) (Eq.mp e48 k48)
def t49 : Prop :=
  ∀ (x : q4), (q45 x) -> True -> ∃ (I : q16), ∃ (μ : q17), (x.1 = x.1 /\ I (q25, q25, ()) ()) /\ ∀ (y : q5) (z : Unit), (q90 y) -> True -> I y z -> (decide (y.1 < (12 : Int)) = true ->
  (decide (q52 x) = true -> True) /\ (decide (q52 x) = true -> (decide (q52 x) == true) = true /\ True /\ (∀ (y_1 : q4), (q45 y_1) -> y_1.1 = labelK y.1 -> (decide (y_1.1 = x.1) = true -> y.1
  = typK x.1) /\ (decide (y_1.1 = x.1) = false -> x.1 = x.1 /\ I (wrZ (q91 y), y.2.1, ()) () /\ μ (wrZ (q91 y), y.2.1, ()) () < μ y z)) /\ True) /\ (decide (q52 x) = !true -> x.1 = x.1 /\ I
  (wrZ (q91 y), y.2.1, ()) () /\ μ (wrZ (q91 y), y.2.1, ()) () < μ y z)) /\ (decide (y.1 < (12 : Int)) = false -> q25 = typK x.1)
theorem e49 : t49 = Con.vc c_name_typeOf GL (mkEnv ty [(39, conSem c_name_label)] [] [] [0, 2, 3, 4, 5, 14]) {} Tryd.f49.ntmps Tryd.f49.results.toList (bodyOf Tryd.f49) := by kernel_rfl
theorem k49 : t49 := by
  unfold t49
  delta q4 q45 q16 q17 q25 q5 q90 q52 wrZ q91 wsZ wiZ
  rintro ⟨s, _⟩ hx hp
  try dsimp +instances only [dft_int, dft_sl, dft_str]
  simp only [true_and, and_true, eq_self_iff_true, implies_true, reduceCtorEq, false_implies, true_implies, decide_eq_true_eq, decide_eq_false_iff_not, beq_self_eq_true, Bool.not_eq_true', ne_eq, Decidable.not_not, List.nil_append, List.length_singleton, List.length_cons, List.length_nil, Nat.zero_add, Nat.add_zero, Nat.mul_one, and_self, beq_iff_eq, Bool.not_true, Bool.not_false, Bool.not_eq_false', Bool.cond_false_right, Bool.and_eq_true, imp_self, Bool.not_eq_true, Bool.cond_true_left, Bool.or_eq_true]
  rw [bs_nil]
  refine ⟨fun y _ => 0 ≤ y.1 ∧ y.1 ≤ 12 ∧ ∀ k : Int, 0 ≤ k → k < y.1 → s ≠ [] → labelK k ≠ s, fun y _ => (12 - y.1).toNat, ⟨Int.le_refl 0, by simp only; omega, fun k h0 h1 => by simp only at h1; omega⟩, ?_⟩
  rintro ⟨i, q, _⟩ _ _ ⟨i0, i1, h⟩
  simp only at i0 i1 h ⊢
  refine ⟨fun hlt => ?_, fun hge => ?_⟩
  . rw [wrapK (i + 1) (by omega) (by omega)]
    have step : (s ≠ [] → labelK i ≠ s) → (0 ≤ i + 1 ∧ i + 1 ≤ 12 ∧ ∀ k : Int, 0 ≤ k → k < i + 1 → s ≠ [] → labelK k ≠ s) := fun hn => ⟨by omega, by omega, fun k h0 h1 => by
      by_cases hk : k = i
      . subst hk; exact hn
      . exact h k h0 (by omega)⟩
    refine ⟨fun hs => ⟨hs, ?_⟩, fun hs => ⟨step fun hn => absurd hs hn, by omega⟩⟩
    rintro ⟨l, _⟩ _ el
    simp only at el ⊢
    subst el
    refine ⟨fun e => ?_, fun e => ⟨step fun _ => e, by omega⟩⟩
    rw [← e] at hs ⊢
    exact (typ_label hs).symm
  . by_cases h0 : typK s = 0
    . exact h0.symm
    . obtain ⟨k0, k1, k2, k3⟩ := typ_range h0
      exact absurd k2 (h (typK s) k0 (by omega) k3)
theorem h49 : c_name_typeOf.ok Tryd.prog GL 49 := con_ok (H := {}) (mkEnv_ok (gl := GL) (l := [(39, conSem c_name_label)]) (q := []) (d := []) _ tyOk (by kernel_rfl) ⟨h39.call, trivial⟩ trivial trivial) (by kernel_rfl) (by kernel_rfl) (Eq.mp e49 k49)
end Go.Proofs.YtbdfeddakniaeaaDoor
end
