/- Texts of a verified walk, led together: NampA, NampW. -/
import Derived.Test.YtlpbhgcndebkcaaGreatDoorZW02
import Derived.Test.YtlpbhgcndebkcaaGreatDoorZV08
set_option linter.unusedVariables false
set_option linter.unusedSimpArgs false
section
namespace Go.Proofs.YtlpbhgcndebkcaaGreatDoor
open Go Go.Vc Go.Pl Go.Proofs
def c_name_plain : Con := { args := [.dat .str], res := [.dat .str, .dat .bool], pre := fun x => x.1.length ≤ 1000000000, post := fun x y => (y.1, y.2.1) = PlainD x.1 }
def c_name_typeOf : Con := { args := [.dat .str], res := [.dat I64], pre := fun _ => True, post := fun x y => y.1 = typK x.1 }
def c_name_Parse : Con := { args := [.dat .str], res := [.own 75 AT, .dat I64], pre := fun x => x.1.length ≤ 10000000, post := fun x y => parN x.1 y.1 y.2.1 = true }
def c_r12_Label : Con := { args := [.dat I64], res := [.dat .str], pre := fun _ => True, post := fun x y => y.1 = labelK x.1 }
def c_r12_MayAttr : Con := { args := [.dat AT], res := [.dat .bool], pre := fun x => x.1.2.length ≤ 100000000, post := fun x y => y.1 = mayA x.1 }
def c_r12_May : Con := { args := [.dat (.sl AT)], res := [.dat .bool], pre := fun x => x.1.length ≤ 1000000000 ∧ ∀ a ∈ x.1, a.2.length ≤ 100000000, post := fun x y => y.1 = mayN x.1 }
def c_r12_Text : Con := { args := [.dat (.sl AT)], res := [.dat .str, .dat I64], pre := fun x => x.1.length ≤ 1000000000 ∧ ∀ a ∈ x.1, a.2.length ≤ 100000000, post := fun x y => (y.1, y.2.1) = TextN x.1 }
def c_r12_Parts : Con := { args := [.dat .str], res := [.own 9 .str], pre := fun x => x.1.length ≤ 10000000, post := fun x y => y.1 = partsE x.1 }
def c_r12_Parse : Con := { args := [.dat .str], res := [.own 75 AT, .dat I64], pre := fun x => x.1.length ≤ 10000000, post := fun x y => parN x.1 y.1 y.2.1 = true }
end Go.Proofs.YtlpbhgcndebkcaaGreatDoor
end
section
namespace Go.Proofs.YtlpbhgcndebkcaaGreatDoor
open Go Go.Vc Go.Pl Go.Proofs
set_option linter.unusedVariables false
set_option linter.unusedSimpArgs false
theorem adft_eq3 : Kd.dft (Kd.pair (Kd.int IntKind.i64) Kd.str) = adft := rfl
abbrev wyZ (x : List Int) : Prop := Kd.wf (Kd.sl (Kd.int IntKind.u8)) x
abbrev q17 := (Int × List Int)
abbrev q18 := (List (List Int) × Unit)
abbrev q528 := (1 : Int)
abbrev q424 (p0 : Int × Bool × List Int × Unit) := (Int.toNat (wrZ (p0.1 + q528)))
abbrev q151 (p0 : Int × Bool × List Int × Unit) (p1 : q6) := (bif decide (wrZ (p0.1 + q528) = (lnZ p1.1)) then true else bif decide (List.getD p1.1 (q424 p0) q421 ≠ (92 : Int)) then decide
  (List.getD p1.1 (q424 p0) q421 ≠ (44 : Int)) else false)
abbrev q152 (p0 : Int × Bool × List Int × Unit) (p1 : q6) := ((decide (wrZ (p0.1 + q528) = (lnZ p1.1)) == false && decide (wrZ (p0.1 + q528) = (lnZ p1.1)) == false) = true -> decide
  (List.getD p1.1 (q424 p0) q421 ≠ (92 : Int)) = true -> True)
abbrev q153 (p0 : Int × Bool × List Int × Unit) (p1 : q6) := (decide (wrZ (p0.1 + q528) = (lnZ p1.1)) == false && decide (wrZ (p0.1 + q528) = (lnZ p1.1)) == false && decide (List.getD p1.1
  (q424 p0) q421 ≠ (92 : Int)) == true)
abbrev q154 (p0 : Int × Bool × List Int × Unit) (p1 : q6) := (decide (wrZ (p0.1 + q528) = (lnZ p1.1)) == false && decide (wrZ (p0.1 + q528) = (lnZ p1.1)) == false)
abbrev q155 (p0 : q6) (p1 : Int × Bool × List Int × Unit) := (List.getD p0.1 (q424 p1) q421 ≠ (92 : Int))
abbrev q156 (p0 : Int × Bool × List Int × Unit) (p1 : q6) := (wrZ (p0.1 + q528) = (lnZ p1.1))
abbrev q157 := (9223372036854775807 : Nat)
abbrev q158 := (140737488355328 : Nat)
abbrev q159 (p0 : q6) := (wyZ p0.1 /\ True)
abbrev q559 (p0 : q1) := (p0.1 < q574)
abbrev q558 (p0 : q1) := (decide (p0.1 < q574) == false)
abbrev q160 (p0 : q1) := (decide (q559 p0) = false -> (q558 p0) = true /\ True)
abbrev q161 (p0 : q1) := (decide (q559 p0) = false -> (q558 p0) = true)
abbrev q486 (p0 : q15) := (bif bif bif decide ((lnZ p0.1.2) = (2 : Int)) then decide (q525 <= List.getD p0.1.2 q540 q529) else false then decide (List.getD p0.1.2 q540 q529 <= (90 : Int))
  else false then decide (q525 <= List.getD p0.1.2 q527 q529) else false)
abbrev q162 (p0 : q15) := ((q486 p0) = true -> ((q486 p0) == true) = true /\ True)
abbrev q487 (p0 : q15) := (bif bif decide ((lnZ p0.1.2) = (2 : Int)) then decide (q525 <= List.getD p0.1.2 q540 q529) else false then decide (List.getD p0.1.2 q540 q529 <= (90 : Int)) else
  false)
abbrev q163 (p0 : q15) := ((q487 p0) = true -> ((q487 p0) == true) = true /\ True)
abbrev q164 (p0 : q15) := ((q486 p0) == true)
abbrev q429 (p0 : q15) := ((lnZ p0.1.2) = (2 : Int))
abbrev q427 (p0 : q15) := (q525 <= List.getD p0.1.2 q540 q529)
abbrev q428 (p0 : q15) := (List.getD p0.1.2 q540 q529 <= (90 : Int))
abbrev q165 (p0 : q15) := (bif bif bif decide (q429 p0) then decide (q427 p0) else false then decide (q428 p0) else false then decide (q525 <= List.getD p0.1.2 q527 q529) else false)
abbrev q488 (p0 : q15) := (bif decide ((lnZ p0.1.2) = (2 : Int)) then decide (q525 <= List.getD p0.1.2 q540 q529) else false)
abbrev q166 (p0 : q15) := ((q488 p0) = true -> ((q488 p0) == true) = true /\ True)
abbrev q426 (p0 : q6) (p1 : q15) := (bif decide (p0.1 = bs { data := #[] }) then true else decide ((lnZ p1.1.2) < q528))
abbrev q167 (p0 : q6) (p1 : q15) := ((q426 p0 p1) = false -> ((q426 p0 p1) == false) = true /\ True)
abbrev q168 (p0 : q15) := ((q487 p0) == true)
abbrev q169 (p0 : q15) := (bif bif decide (q429 p0) then decide (q427 p0) else false then decide (q428 p0) else false)
abbrev q170 (p0 : q6) (p1 : q15) := ((bif bif decide (q455 p0) then true else decide ((lnZ p1.1.2) < q458) then true else decide ((64 : Int) < (lnZ p1.1.2))) == false)
abbrev q171 (p0 : q6) (p1 : q15) := (bif bif decide (q455 p0) then true else decide ((lnZ p1.1.2) < q458) then true else decide ((64 : Int) < (lnZ p1.1.2)))
abbrev q172 (p0 : q15) := ((q488 p0) == true)
abbrev q173 (p0 : q15) := (bif decide (q429 p0) then decide (q427 p0) else false)
abbrev q174 (p0 : q15) := (decide (q429 p0) = true -> (decide (q429 p0) == true) = true /\ True)
abbrev q175 := (100000000 : Nat)
abbrev q577 := (Kd.dft (Kd.pair (Kd.int IntKind.i64) Kd.str))
abbrev q489 (p0 : q16) (p1 : q14) := (List.getD p0.1 (Int.toNat p1.1) q577)
abbrev q176 (p0 : q16) (p1 : q14) (p2 : q14) := (bif decide (List.getD (q489 p0 p1).2 (Int.toNat p2.1) q421 = (44 : Int)) then true else decide (List.getD (q489 p0 p1).2 (Int.toNat p2.1)
  q421 = (92 : Int)))
abbrev q177 (p0 : q16) (p1 : q14) (p2 : q14) := (decide (List.getD (q489 p0 p1).2 (Int.toNat p2.1) q421 = (44 : Int)) == false)
abbrev q178 (p0 : q16) (p1 : q14) (p2 : q14) := (List.getD (q489 p0 p1).2 (Int.toNat p2.1) q421 = (44 : Int))
abbrev q179 (p0 : q16) (p1 : q14) := (lnZ (q489 p0 p1).2)
abbrev q180 (p0 : q16) (p1 : q14) := (List.getD p0.1 (Int.toNat p1.1) q485)
abbrev q181 (p0 : q18) := (Kd.wf (Kd.sl Kd.str) p0.1 /\ True)
abbrev q182 (p0 : q7) (p1 : q6) := (List.take (Int.toNat p0.1) p1.1)
abbrev q183 := (10000000 : Nat)
abbrev q425 := (Kd.dft Kd.str)
noncomputable def i102 : CallSem → CallSem := vcSeq (mkEnv ty [] [] [] [0, 1, 3, 4, 8, 13, 14, 18, 26]) {} Tryz.f102.ntmps Tryz.f102.results.toList (bodyOf Tryz.f102)
theorem i102_ok : SeqOk Tryz.prog GL 102 i102 := seq_ok {} (mkEnv_ok (gl := GL) (l := []) (q := []) (d := []) _ tyOk (by kernel_rfl) trivial trivial trivial) (by kernel_rfl) (by kernel_rfl)
noncomputable def i67 : CallSem := vcFn (mkEnv ty [] [] [] [0, 1, 2]) {} Tryz.f67.ntmps Tryz.f67.results.toList (bodyOf Tryz.f67)
theorem i67_ok : CallOk Tryz.prog GL 67 i67 := inl_ok {} (mkEnv_ok (gl := GL) (l := []) (q := []) (d := []) _ tyOk (by kernel_rfl) trivial trivial trivial) (by kernel_rfl) (by kernel_rfl)
def t68 : Prop :=
  ∀ (x : q6), (q71 x) -> List.length x.1 <= q88 -> ∃ (I : Int × Bool × List Int × Unit -> List Int × Unit -> Prop), ∃ (μ : Int × Bool × List Int × Unit -> List Int × Unit -> Nat), (x.1 = x.1
  /\ I (q40, false, bs { data := #[] }, ()) ([], ())) /\ ∀ (y : Int × Bool × List Int × Unit) (z : q6), (wiZ y.1 /\ wbZ y.2.1 /\ wsZ y.2.2.1 /\ True) -> (q159 z) -> I y z -> (decide (y.1 <
  (lnZ x.1)) = true -> (q40 <= y.1 /\ y.1 < (lnZ x.1)) /\ (decide (List.getD x.1 (Int.toNat y.1) q40 = (92 : Int)) = true -> (decide (q156 y x) = false -> True) /\ (decide (q156 y x) = false
  -> True) /\ (decide (q156 y x) = false -> (decide (q156 y x) == false) = true /\ (decide (q156 y x) == false) = true /\ (q40 <= wrZ (y.1 + q528) /\ wrZ (y.1 + q528) < (lnZ x.1)) /\ True) /\
  (decide (q156 y x) = false -> (decide (q156 y x) == false) = true /\ True) /\ (decide (q156 y x) = false -> True) /\ (q152 y x) /\ (q152 y x) /\ ((q154 y x) = true -> decide (q155 x y) =
  true -> (q153 y x) = true /\ (q153 y x) = true /\ (q40 <= wrZ (y.1 + q528) /\ wrZ (y.1 + q528) < (lnZ x.1)) /\ True) /\ ((q154 y x) = true -> decide (q155 x y) = true -> (q153 y x) = true
  /\ True) /\ (decide (q156 y x) = false -> (q154 y x) = true /\ (decide (q155 x y) = true -> (q153 y x) = true) /\ True) /\ (decide (q156 y x) = false -> (decide (q156 y x) == false) = true)
  /\ ((q151 y x) = true -> (bs { data := #[] }, false) = PlainD x.1) /\ ((q151 y x) = false -> (q40 <= wrZ (y.1 + q528) /\ wrZ (y.1 + q528) < (lnZ x.1)) /\ q74 < q42 /\ (List.length z.1 +
  List.length [List.getD x.1 (q424 y) q40]) * q42 <= q158 /\ List.length z.1 + List.length [List.getD x.1 (q424 y) q40] <= q157 /\ x.1 = x.1 /\ I (wrZ (wrZ (y.1 + q528) + q75), y.2.1,
  y.2.2.1, ()) (z.1 ++ [List.getD x.1 (q424 y) q40], ()) /\ μ (wrZ (wrZ (y.1 + q528) + q75), y.2.1, y.2.2.1, ()) (z.1 ++ [List.getD x.1 (q424 y) q40], ()) < μ y z)) /\ (decide (List.getD x.1
  (Int.toNat y.1) q40 = (92 : Int)) = false -> (q40 <= y.1 /\ y.1 < (lnZ x.1)) /\ q74 < q42 /\ (List.length z.1 + List.length [List.getD x.1 (Int.toNat y.1) q40]) * q42 <= q158 /\ List.length
  z.1 + List.length [List.getD x.1 (Int.toNat y.1) q40] <= q157 /\ x.1 = x.1 /\ I (wrZ (y.1 + q528), y.2.1, y.2.2.1, ()) (z.1 ++ [List.getD x.1 (Int.toNat y.1) q40], ()) /\ μ (wrZ (y.1 +
  q528), y.2.1, y.2.2.1, ()) (z.1 ++ [List.getD x.1 (Int.toNat y.1) q40], ()) < μ y z)) /\ (decide (y.1 < (lnZ x.1)) = false -> (z.1, true) = PlainD x.1)
theorem e68 : t68 = Con.vc c_name_plain GL (mkEnv ty [] [] [] [0, 2, 3, 4, 5, 9, 15, 33]) {} Tryz.f68.ntmps Tryz.f68.results.toList (bodyOf Tryz.f68) := by kernel_rfl
theorem k68 : t68 := by
  unfold t68
  delta q6 q71 q88 q40 wiZ wbZ wsZ q159 lnZ q156 wrZ q528 q152 q154 q155 q153 q151 q74 q42 q424 q158 q157 q75 wyZ q421
  rintro ⟨s, _⟩ hx hp
  have hp : s.length ≤ 1000000000 := hp
  try dsimp +instances only [dft_int, dft_sl, dft_str]
  simp only [true_and, and_true, eq_self_iff_true, implies_true, reduceCtorEq, false_implies, true_implies, decide_eq_true_eq, decide_eq_false_iff_not, beq_self_eq_true, Bool.not_eq_true', ne_eq, Decidable.not_not, List.nil_append, List.length_singleton, List.length_cons, List.length_nil, Nat.zero_add, Nat.add_zero, Nat.mul_one, and_self, beq_iff_eq, Bool.not_true, Bool.not_false, Bool.not_eq_false', Bool.cond_false_right, Bool.and_eq_true, imp_self, Bool.not_eq_true, Bool.cond_true_left, Bool.or_eq_true]
  rw [bs_nil]
  refine ⟨fun y z => 0 ≤ y.1 ∧ y.1 ≤ s.length ∧ (z.1 : List Int).length ≤ y.1 ∧ plainO s = (plainO (s.drop y.1.toNat)).map (z.1 ++ ·), fun y _ => ((s.length : Int) - y.1).toNat, ⟨Int.le_refl 0, by simp only; omega, by simp, by simp⟩, ?_⟩
  rintro ⟨i, q, t, _⟩ ⟨b, _⟩ _ _ ⟨i0, i1, hb, e⟩
  simp only at i0 i1 hb e ⊢
  refine ⟨fun hlt => ⟨⟨i0, hlt⟩, fun hc => ?_, fun hc => ?_⟩, fun hge => ?_⟩
  . rw [wrapK (i + 1) (by omega) (by omega)]
    rw [drop_cons s i.toNat (by omega), hc] at e
    refine ⟨fun h => ⟨h, h, by omega, by omega⟩, fun h h2 => ⟨⟨h, h2⟩, ⟨h, h2⟩, by omega, by omega⟩, fun h h2 => ⟨h, h2⟩, fun h => ⟨h, fun h2 => ⟨h, h2⟩⟩, fun h => ?_, fun h => ?_⟩
    . rw [plainD_none]
      rw [e]
      by_cases hl : i + 1 = s.length
      . rw [List.drop_of_length_le (by omega)]; rfl
      . have h := h.resolve_left hl
        rw [drop_cons s (i.toNat + 1) (by omega), show i.toNat + 1 = (i + 1).toNat by omega, plainO, if_pos rfl, if_neg (fun hd => hd.elim h.1 h.2)]
        rfl
    . simp only [Bool.or_eq_false_iff, decide_eq_false_iff_not, Bool.and_eq_false_iff, Decidable.not_not] at h
      rw [wrapK (i + 1 + 1) (by omega) (by omega)]
      refine ⟨⟨by omega, by omega⟩, by decide, by omega, by omega, ⟨by omega, by omega, by rw [List.length_append, List.length_singleton]; omega, ?_⟩, by omega⟩
      rw [drop_cons s (i.toNat + 1) (by omega), show i.toNat + 1 = (i + 1).toNat by omega, plainO, if_pos rfl, if_pos h.2] at e
      rw [e, show (i + 1).toNat + 1 = (i + 1 + 1).toNat by omega]
      cases plainO (s.drop (i + 1 + 1).toNat) <;> simp
  . rw [wrapK (i + 1) (by omega) (by omega)]
    refine ⟨⟨i0, hlt⟩, by decide, by omega, by omega, ⟨by omega, by omega, by rw [List.length_append, List.length_singleton]; omega, ?_⟩, by omega⟩
    rw [drop_cons s i.toNat (by omega), plain_one hc] at e
    rw [e, show i.toNat + 1 = (i + 1).toNat by omega]
    cases plainO (s.drop (i + 1).toNat) <;> simp
  . rw [List.drop_of_length_le (by omega)] at e
    rw [plainD_some (v := b) (by rw [e]; simp [plainO])]
theorem h68 : c_name_plain.ok Tryz.prog GL 68 := con_ok (H := {}) (mkEnv_ok (gl := GL) (l := []) (q := []) (d := []) _ tyOk (by kernel_rfl) trivial trivial trivial) (by kernel_rfl) (by kernel_rfl) (Eq.mp e68 k68)
def t69 : Prop :=
  ∀ (x : q6), (q71 x) -> True -> ∃ (I : q11), ∃ (μ : q12), (x.1 = x.1 /\ I (q40, q40, ()) ()) /\ ∀ (y : q7) (z : Unit), (q99 y) -> True -> I y z -> (decide (y.1 < q73) = true -> (decide (q81
  x) = true -> True) /\ (decide (q81 x) = true -> (q80 x) = true /\ True /\ (∀ (y_1 : q6), (q71 y_1) -> y_1.1 = labelK y.1 -> (decide (y_1.1 = x.1) = true -> y.1 = typK x.1) /\ (decide (y_1.1
  = x.1) = false -> x.1 = x.1 /\ I (wrZ (q101 y), y.2.1, ()) () /\ μ (wrZ (q101 y), y.2.1, ()) () < μ y z)) /\ True) /\ (decide (q81 x) = !true -> x.1 = x.1 /\ I (wrZ (q101 y), y.2.1, ()) ()
  /\ μ (wrZ (q101 y), y.2.1, ()) () < μ y z)) /\ (decide (y.1 < q73) = false -> q40 = typK x.1)
theorem e69 : t69 = Con.vc c_name_typeOf GL (mkEnv ty [(44, conSem c_name_label)] [] [] [0, 2, 3, 4, 5, 14]) {} Tryz.f69.ntmps Tryz.f69.results.toList (bodyOf Tryz.f69) := by kernel_rfl
theorem k69 : t69 := by
  unfold t69
  delta q6 q71 q11 q12 q40 q7 q99 q73 q81 q80 wrZ q101 wsZ wiZ q458
  rintro ⟨s, _⟩ hx hp
  try dsimp +instances only [dft_int, dft_sl, dft_str]
  simp only [true_and, and_true, eq_self_iff_true, implies_true, reduceCtorEq, false_implies, true_implies, decide_eq_true_eq, decide_eq_false_iff_not, beq_self_eq_true, Bool.not_eq_true', ne_eq, Decidable.not_not, List.nil_append, List.length_singleton, List.length_cons, List.length_nil, Nat.zero_add, Nat.add_zero, Nat.mul_one, and_self, beq_iff_eq, Bool.not_true, Bool.not_false, Bool.not_eq_false', Bool.cond_false_right, Bool.and_eq_true, imp_self, Bool.not_eq_true, Bool.cond_true_left, Bool.or_eq_true]
  rw [bs_nil]
  refine ⟨fun y _ => 0 ≤ y.1 ∧ y.1 ≤ 12 ∧ ∀ k : Int, 0 ≤ k → k < y.1 → s ≠ [] → labelK k ≠ s, fun y _ => (12 - y.1).toNat, ⟨Int.le_refl 0, by simp only; omega, fun k h0 h1 => by simp only at h1; omega⟩, ?_⟩
  rintro ⟨i, q, _⟩ _ _ ⟨i0, i1, h⟩
  simp only at i0 i1 h ⊢
  refine ⟨fun hlt => ?_, fun hge => ?_⟩
  . rw [wrapK (i + 1) (by omega) (by omega)]
    have step : (s ≠ [] → labelK i ≠ s) → (0 ≤ i + 1 ∧ i + 1 ≤ 12 ∧ ∀ k : Int, 0 ≤ k → k < i + 1 → s ≠ [] → labelK k ≠ s) := fun hn => ⟨by omega, by omega, fun k h0 h1 => by
      by_cases hk : k = i
      . subst hk; exact hn
      . exact h k h0 (by omega)⟩
    refine ⟨fun hs => ⟨hs, ?_⟩, fun hs => ⟨step fun hn => absurd hs hn, by omega⟩⟩
    rintro ⟨l, _⟩ _ el
    simp only at el ⊢
    subst el
    refine ⟨fun e => ?_, fun e => ⟨step fun _ => e, by omega⟩⟩
    rw [← e] at hs ⊢
    exact (typ_label hs).symm
  . by_cases h0 : typK s = 0
    . exact h0.symm
    . obtain ⟨k0, k1, k2, k3⟩ := typ_range h0
      exact absurd k2 (h (typK s) k0 (by omega) k3)
theorem h69 : c_name_typeOf.ok Tryz.prog GL 69 := con_ok (H := {}) (mkEnv_ok (gl := GL) (l := [(44, conSem c_name_label)]) (q := []) (d := []) _ tyOk (by kernel_rfl) ⟨h44.call, trivial⟩ trivial trivial) (by kernel_rfl) (by kernel_rfl) (Eq.mp e69 k69)
def t50 : Prop :=
  ∀ (x : q1), (q36 x) -> True -> (decide (q559 x) = false -> True) /\ (decide (q559 x) = false -> True) /\ (q160 x) /\ (decide (q559 x) = false -> (q558 x) = true /\ (q558 x) = true /\ True)
  /\ (q161 x) /\ ((bif decide (q559 x) then true else decide ((↑(12 : Nat) : Int) <= x.1)) = true -> bs { data := #[] } = labelK x.1) /\ ((bif decide (q559 x) then true else decide ((↑(12 :
  Nat) : Int) <= x.1)) = false -> (q40 <= x.1 /\ x.1 < (↑(12 : Nat) : Int)) /\ List.getD [bs { data := #[] }, bs { data := #[] }, bs { data := #[] }, bs { data := #[(67 : UInt8), (78 :
  UInt8)] }, bs { data := #[] }, bs { data := #[(83 : UInt8), (78 : UInt8)] }, bs { data := #[(67 : UInt8)] }, bs { data := #[(76 : UInt8)] }, bs { data := #[(83 : UInt8), (84 : UInt8)] }, bs
  { data := #[] }, bs { data := #[(79 : UInt8)] }, bs { data := #[(79 : UInt8), (85 : UInt8)] }] (q411 x) q425 = labelK x.1)
theorem e50 : t50 = Con.vc c_r12_Label GL (mkEnv ty [] [] [] [0, 2, 3, 12]) {} Tryz.f50.ntmps Tryz.f50.results.toList (bodyOf Tryz.f50) := by kernel_rfl
theorem k50 : t50 := by
  unfold t50
  delta q1 q36 q559 q160 q558 q161 q40 q411 q425 wiZ q574
  rintro ⟨k, _⟩ hx hp
  try dsimp +instances only [dft_int, dft_sl, dft_str]
  simp only [true_and, and_true, eq_self_iff_true, implies_true, reduceCtorEq, false_implies, true_implies, decide_eq_true_eq, decide_eq_false_iff_not, beq_self_eq_true, Bool.not_eq_true', ne_eq, Decidable.not_not, List.nil_append, List.length_singleton, List.length_cons, List.length_nil, Nat.zero_add, Nat.add_zero, Nat.mul_one, and_self, beq_iff_eq, Bool.not_true, Bool.not_false, Bool.not_eq_false', Bool.cond_false_right, Bool.and_eq_true, imp_self, Bool.not_eq_true, Bool.cond_true_left, Bool.or_eq_true]
  rw [bs_nil, show bs { data := #[67, 78] } = [67, 78] by decide, show bs { data := #[83, 78] } = [83, 78] by decide, show bs { data := #[67] } = [67] by decide, show bs { data := #[76] } = [76] by decide, show bs { data := #[83, 84] } = [83, 84] by decide, show bs { data := #[79] } = [79] by decide, show bs { data := #[79, 85] } = [79, 85] by decide]
  refine ⟨fun h => (label_out (by omega)).symm, fun h => ?_⟩
  simp only [Bool.or_eq_false_iff, decide_eq_false_iff_not] at h
  exact ⟨⟨by omega, by omega⟩, labels12 (by omega) (by omega)⟩
theorem h50 : c_r12_Label.ok Tryz.prog GL 50 := con_ok (H := {}) (mkEnv_ok (gl := GL) (l := []) (q := []) (d := []) _ tyOk (by kernel_rfl) trivial trivial trivial) (by kernel_rfl) (by kernel_rfl) (Eq.mp e50 k50)
def t90 : Prop :=
  ∀ (x : q15), (q146 x) -> List.length x.1.2 <= q175 -> List.length [SV.dat q148 x.1.1, SV.dat Kd.str x.1.2] <= q72 /\ True /\ (∀ (y : q6), (q71 y) -> y.1 = labelK x.1.1 -> (q147 y) /\ (q144
  y) /\ (q144 y) /\ (q144 y) /\ (q145 y) /\ ((q426 y x) = false -> True) /\ (q167 y x) /\ (q167 y x) /\ (q167 y x) /\ ((q426 y x) = false -> ((q426 y x) == false) = true) /\ ((q171 y x) =
  false -> True) /\ ((q171 y x) = false -> (q170 y x) = true /\ True) /\ ((q171 y x) = false -> (q170 y x) = true /\ List.length x.1.2 <= q88 /\ (∀ (y : q4), (q49 y) -> y.1 = mayD q73 x.1.2
  -> ((!y.1) = true -> false = mayA x.1) /\ ((!y.1) = false -> (decide (x.1.1 = (5 : Int)) = true -> List.length x.1.2 <= q88 /\ (∀ (y : q4), (q49 y) -> y.1 = mayD (19 : Int) x.1.2 -> y.1 =
  mayA x.1) /\ True) /\ (decide (x.1.1 = (5 : Int)) = false -> (decide (x.1.1 = (6 : Int)) = true -> (decide (q429 x) = true -> True) /\ (q174 x) /\ (decide (q429 x) = true -> (decide (q429
  x) == true) = true /\ (q40 <= q40 /\ q40 < (lnZ x.1.2)) /\ True) /\ (q174 x) /\ (decide (q429 x) = true -> (decide (q429 x) == true) = true) /\ ((q173 x) = true -> True) /\ (q166 x) /\
  ((q173 x) = true -> (q172 x) = true /\ (q40 <= q40 /\ q40 < (lnZ x.1.2)) /\ True) /\ (q166 x) /\ ((q173 x) = true -> (q172 x) = true) /\ ((q169 x) = true -> True) /\ (q163 x) /\ ((q169 x) =
  true -> (q168 x) = true /\ (q40 <= q75 /\ q75 < (lnZ x.1.2)) /\ True) /\ (q163 x) /\ ((q169 x) = true -> (q168 x) = true) /\ ((q165 x) = true -> True) /\ (q162 x) /\ ((q165 x) = true ->
  (q164 x) = true /\ (q40 <= q75 /\ q75 < (lnZ x.1.2)) /\ True) /\ (q162 x) /\ ((q165 x) = true -> (q164 x) = true) /\ (bif bif bif bif decide (q429 x) then decide (q427 x) else false then
  decide (q428 x) else false then decide (q525 <= List.getD x.1.2 q527 q529) else false then decide (List.getD x.1.2 q42 q40 <= (90 : Int)) else false) = mayA x.1) /\ (decide (x.1.1 = (6 :
  Int)) = false -> true = mayA x.1)))) /\ True) /\ ((q171 y x) = !false -> false = mayA x.1)) /\ True
theorem e90 : t90 = Con.vc c_r12_MayAttr GL (mkEnv ty [(50, conSem c_r12_Label), (110, conSem c_r05_May)] [] [] [0, 1, 2, 24, 27, 33]) {} Tryz.f90.ntmps Tryz.f90.results.toList (bodyOf Tryz.f90) := by kernel_rfl
theorem k90 : t90 := by
  unfold t90
  delta q15 q146 q175 q148 q72 q6 q71 q147 q144 q145 q426 q167 q171 q170 q88 q4 q49 q73 q429 q174 q40 lnZ q173 q166 q172 q169 q163 q168 q75 q165 q162 q164 q427 q428 q525 q527 q529 q42 q484 wsZ q455 q528 q458 wbZ q488 q487 q486 q540 q541
  rintro ⟨⟨k, v⟩, _⟩ hx hp
  have hp : v.length ≤ 100000000 := hp
  try dsimp +instances only [dft_int, dft_sl, dft_str]
  simp only [true_and, and_true, eq_self_iff_true, implies_true, reduceCtorEq, false_implies, true_implies, decide_eq_true_eq, decide_eq_false_iff_not, beq_self_eq_true, Bool.not_eq_true', ne_eq, Decidable.not_not, List.nil_append, List.length_singleton, List.length_cons, List.length_nil, Nat.zero_add, Nat.add_zero, Nat.mul_one, and_self, beq_iff_eq, Bool.not_true, Bool.not_false, Bool.not_eq_false', Bool.cond_false_right, Bool.and_eq_true, imp_self, Bool.not_eq_true, Bool.cond_true_left, Bool.or_eq_true]
  rw [bs_nil]
  refine ⟨by decide, ?_⟩
  rintro ⟨a, _⟩ _ ea
  simp only at ea ⊢
  subst ea
  have hv : v = [] ↔ v.length = 0 := ⟨fun h => by rw [h]; rfl, List.eq_nil_of_length_eq_zero⟩
  simp only [Bool.or_eq_false_iff, decide_eq_false_iff_not]
  refine ⟨fun h => ⟨h, by omega, ?_⟩, fun h => ?_⟩
  . have hM : mayA (k, v) = (mayD 12 v && (if k = 6 then capsD v && mayD 19 v else if k = 5 then mayD 19 v else true)) := by
      rw [mayA, decide_eq_true ⟨h.1.1, fun e => h.1.2 (by rw [hv.1 e]; decide), by simp only; omega⟩]; rfl
    rintro ⟨b, _⟩ _ eb
    simp only at eb ⊢
    rw [hM, ← eb]
    refine ⟨fun hb => by rw [hb]; rfl, fun hb => ?_⟩
    rw [hb]
    refine ⟨fun hk => ⟨by omega, ?_⟩, fun hk => ⟨fun hk6 => ⟨fun h => ⟨h, by decide, by omega⟩, fun h => ⟨h, by decide, by omega⟩, fun h => ⟨h, by decide, by omega⟩, fun h => ⟨h, by decide, by omega⟩, ?_⟩, fun hk6 => by rw [if_neg hk6, if_neg hk]; rfl⟩⟩
    . rintro ⟨d, _⟩ _ ed
      simp only at ed ⊢
      rw [if_neg (by omega), if_pos hk, ed]; rfl
    . rw [if_pos hk6, caps_prints v, Bool.true_and, Bool.eq_iff_iff, capsD]
      simp only [Bool.and_eq_true, decide_eq_true_eq]
      omega
  . have key : ¬ (labelK k ≠ [] ∧ v ≠ [] ∧ v.length ≤ 64) := by
      rintro ⟨h1, h2, h3⟩
      rcases h with (h | h) | h
      . exact h1 h
      . exact h2 (hv.2 (by omega))
      . omega
    rw [mayA]
    simp only
    rw [decide_eq_false key]; rfl
theorem h90 : c_r12_MayAttr.ok Tryz.prog GL 90 := con_ok (H := {}) (mkEnv_ok (gl := GL) (l := [(50, conSem c_r12_Label), (110, conSem c_r05_May)]) (q := []) (d := []) _ tyOk (by kernel_rfl) ⟨h50.call, h110.call, trivial⟩ trivial trivial) (by kernel_rfl) (by kernel_rfl) (Eq.mp e90 k90)
def t49 : Prop :=
  ∀ (x : q16), (q150 x) -> (List.length x.1 <= q88 /\ ∀ (a : q17), a ∈ x.1 -> List.length a.2 <= q175) -> ∃ (I : q8), ∃ (μ : q9), (x.1 = x.1 /\ I (q40, false, ()) ()) /\ ∀ (y : q10) (z :
  Unit), (q87 y) -> True -> I y z -> (decide (y.1 < (lnZ x.1)) = true -> (q40 <= y.1 /\ y.1 < (lnZ x.1)) /\ List.length (q149 x y).2 <= q175 /\ (∀ (y_1 : q4), (q49 y_1) -> y_1.1 = mayA (q149
  x y) -> ((!y_1.1) = true -> false = mayN x.1) /\ ((!y_1.1) = false -> x.1 = x.1 /\ I (wrZ (q89 y), y.2.1, ()) () /\ μ (wrZ (q89 y), y.2.1, ()) () < μ y z)) /\ True) /\ (decide (y.1 < (lnZ
  x.1)) = false -> decide ((lnZ x.1) <= q423) = mayN x.1)
theorem e49 : t49 = Con.vc c_r12_May GL (mkEnv ty [(90, conSem c_r12_MayAttr)] [] [] [0, 2, 3, 7, 15]) {} Tryz.f49.ntmps Tryz.f49.results.toList (bodyOf Tryz.f49) := by kernel_rfl
theorem k49 : t49 := by
  unfold t49
  delta q16 q150 q88 q17 q175 q8 q9 q40 q10 q87 lnZ q149 q4 q49 wrZ q89 q423 q484 wiZ wbZ q418 q485 q458 q541
  rintro ⟨l, _⟩ hx hp
  obtain ⟨h1, h2⟩ := hp
  simp only at h1 h2
  try dsimp +instances only [dft_int, dft_sl, dft_str]
  simp only [true_and, and_true, eq_self_iff_true, implies_true, reduceCtorEq, false_implies, true_implies, decide_eq_true_eq, decide_eq_false_iff_not, beq_self_eq_true, Bool.not_eq_true', ne_eq, Decidable.not_not, List.nil_append, List.length_singleton, List.length_cons, List.length_nil, Nat.zero_add, Nat.add_zero, Nat.mul_one, and_self, beq_iff_eq, Bool.not_true, Bool.not_false, Bool.not_eq_false', Bool.cond_false_right, Bool.and_eq_true, imp_self, Bool.not_eq_true, Bool.cond_true_left, Bool.or_eq_true]
  simp only [adft_eq3]
  refine ⟨fun y _ => 0 ≤ y.1 ∧ y.1 ≤ l.length ∧ ∀ j, j < y.1.toNat → mayA (l.getD j adft) = true, fun y _ => ((l.length : Int) - y.1).toNat, ⟨Int.le_refl 0, by simp only; omega, fun j hj => by simp at hj⟩, ?_⟩
  rintro ⟨i, b, _⟩ _ _ ⟨i0, i1, i2⟩
  simp only at i0 i1 i2 ⊢
  refine ⟨fun hlt => ⟨⟨i0, hlt⟩, h2 _ (mem_getD adft l _ (by omega)), ?_⟩, fun hge => ?_⟩
  . rintro ⟨c, _⟩ _ ec
    simp only at ec ⊢
    rw [wrapK (i + 1) (by omega) (by omega)]
    refine ⟨fun hc => ?_, fun hc => ⟨⟨by omega, by omega, fun j hj => ?_⟩, by omega⟩⟩
    . rw [mayN, all_notA adft _ _ i.toNat (by omega) (ec.symm.trans hc), Bool.and_false]
    by_cases hji : j < i.toNat
    . exact i2 j hji
    . rw [show j = i.toNat by omega]; exact ec.symm.trans hc
  . rw [mayN, all_getA adft _ _ (fun j hj => i2 j (by omega)), Bool.and_true]
    exact decide_eq_decide.2 (by omega)
theorem h49 : c_r12_May.ok Tryz.prog GL 49 := con_ok (H := {}) (mkEnv_ok (gl := GL) (l := [(90, conSem c_r12_MayAttr)]) (q := []) (d := []) _ tyOk (by kernel_rfl) ⟨h90.call, trivial⟩ trivial trivial) (by kernel_rfl) (by kernel_rfl) (Eq.mp e49 k49)
def t18 : Prop :=
  ∀ (x : q16), (q150 x) -> (List.length x.1 <= q88 /\ ∀ (a : q17), a ∈ x.1 -> List.length a.2 <= q175) -> (List.length x.1 <= q88 /\ ∀ (a : q17), a ∈ x.1 -> List.length a.2 <= q175) /\ (∀ (y
  : q4), (q49 y) -> y.1 = mayN x.1 -> ((!y.1) = true -> (bs { data := #[] }, (120 : Int)) = TextN x.1) /\ ((!y.1) = false -> ∃ (I : Int × List Int × Unit -> Unit -> Prop), ∃ (μ : Int × List
  Int × Unit -> Unit -> Nat), (Value.bool false = Value.bool false /\ q40 = q40 /\ bs { data := #[] } = bs { data := #[] } /\ x.1 = x.1 /\ I (q40, bs { data := #[] }, ()) ()) /\ ∀ (y : q14)
  (z : Unit), (q125 y) -> True -> I y z -> (decide (y.1 < (lnZ x.1)) = true -> ∃ (J : List Int × Unit -> Unit -> Prop), ((decide (q40 < y.1) = true -> List.length y.2.1 + q42 <= q157 /\
  Value.bool true = Value.bool true /\ y.1 = y.1 /\ Value.bool false = Value.bool false /\ q40 = q40 /\ bs { data := #[] } = bs { data := #[] } /\ x.1 = x.1 /\ J (y.2.1 ++ bs { data := #[(44
  : UInt8)] }, ()) ()) /\ (decide (q40 < y.1) = false -> Value.bool true = Value.bool true /\ y.1 = y.1 /\ Value.bool false = Value.bool false /\ q40 = q40 /\ bs { data := #[] } = bs { data
  := #[] } /\ x.1 = x.1 /\ J (y.2.1, ()) ())) /\ ∀ (u : q6) (z_1 : Unit), (q71 u) -> True -> J u z_1 -> (q40 <= y.1 /\ y.1 < (lnZ x.1)) /\ True /\ (∀ (y_1 : q6), (q71 y_1) -> y_1.1 = labelK
  (q180 x y).1 -> List.length u.1 + List.length y_1.1 <= q157 /\ List.length (u.1 ++ y_1.1) + q42 <= q157 /\ ∃ (I_1 : Int × List Int × Unit -> Unit -> Prop), ∃ (μ_1 : Int × List Int × Unit ->
  Unit -> Nat), (Value.bool true = Value.bool true /\ y.1 = y.1 /\ Value.bool false = Value.bool false /\ q40 = q40 /\ bs { data := #[] } = bs { data := #[] } /\ x.1 = x.1 /\ I_1 (q40, u.1 ++
  y_1.1 ++ bs { data := #[q526] }, ()) ()) /\ ∀ (y_2 : q14) (z_2 : Unit), (q125 y_2) -> True -> I_1 y_2 z_2 -> (q40 <= y.1 /\ y.1 < (lnZ x.1)) /\ (decide (y_2.1 < (q179 x y)) = true -> (q40
  <= y.1 /\ y.1 < (lnZ x.1)) /\ (q40 <= y_2.1 /\ y_2.1 < (q179 x y)) /\ ∃ (J : List Int × Unit -> Unit -> Prop), ((decide (q178 x y y_2) = false -> True) /\ (decide (q178 x y y_2) = false ->
  (q177 x y y_2) = true /\ True) /\ (decide (q178 x y y_2) = false -> (q177 x y y_2) = true) /\ ((q176 x y y_2) = true -> List.length y_2.2.1 + q42 <= q157 /\ List.getD (q180 x y).2
  (Int.toNat y_2.1) q40 = List.getD (q180 x y).2 (Int.toNat y_2.1) q40 /\ Value.bool true = Value.bool true /\ y_2.1 = y_2.1 /\ Value.bool true = Value.bool true /\ y.1 = y.1 /\ Value.bool
  false = Value.bool false /\ q40 = q40 /\ bs { data := #[] } = bs { data := #[] } /\ x.1 = x.1 /\ J (y_2.2.1 ++ bs { data := #[(92 : UInt8)] }, ()) ()) /\ ((q176 x y y_2) = false ->
  List.getD (q180 x y).2 (Int.toNat y_2.1) q40 = List.getD (q180 x y).2 (Int.toNat y_2.1) q40 /\ Value.bool true = Value.bool true /\ y_2.1 = y_2.1 /\ Value.bool true = Value.bool true /\ y.1
  = y.1 /\ Value.bool false = Value.bool false /\ q40 = q40 /\ bs { data := #[] } = bs { data := #[] } /\ x.1 = x.1 /\ J (y_2.2.1, ()) ())) /\ ∀ (u : q6) (z : Unit), (q71 u) -> True -> J u z
  -> List.length u.1 + List.length [List.getD (q180 x y).2 (Int.toNat y_2.1) q40] <= q157 /\ Value.bool true = Value.bool true /\ y.1 = y.1 /\ Value.bool false = Value.bool false /\ q40 = q40
  /\ bs { data := #[] } = bs { data := #[] } /\ x.1 = x.1 /\ I_1 (wrZ (y_2.1 + (1 : Int)), u.1 ++ [List.getD (q180 x y).2 (Int.toNat y_2.1) q40], ()) () /\ μ_1 (wrZ (y_2.1 + (1 : Int)), u.1
  ++ [List.getD (q180 x y).2 (Int.toNat y_2.1) q40], ()) () < μ_1 y_2 z_2) /\ (decide (y_2.1 < (q179 x y)) = false -> Value.bool false = Value.bool false /\ q40 = q40 /\ bs { data := #[] } =
  bs { data := #[] } /\ x.1 = x.1 /\ I (wrZ (y.1 + (1 : Int)), y_2.2.1, ()) () /\ μ (wrZ (y.1 + (1 : Int)), y_2.2.1, ()) () < μ y z)) /\ True) /\ (decide (y.1 < (lnZ x.1)) = false -> (y.2.1,
  q40) = TextN x.1))) /\ True
theorem e18 : t18 = Con.vc c_r12_Text GL (mkEnv ty [(49, conSem c_r12_May), (50, conSem c_r12_Label)] [] [] [0, 2, 3, 4, 5, 6, 7, 10, 14, 18, 37, 52]) {joins := [9,16]} Tryz.f18.ntmps Tryz.f18.results.toList (bodyOf Tryz.f18) := by kernel_rfl
theorem k18 : t18 := by
  unfold t18
  delta q16 q150 q88 q17 q175 q4 q49 q40 q14 q125 lnZ q42 q157 q6 q71 q180 q526 q179 q178 q177 q176 wrZ q484 wbZ wiZ wsZ q485 q489 q421 q541 q577
  rintro ⟨l, _⟩ hx hp
  have hp2 := hp
  obtain ⟨h1, h2⟩ := hp2
  simp only at h1 h2
  try dsimp +instances only [dft_int, dft_sl, dft_str]
  simp only [true_and, and_true, eq_self_iff_true, implies_true, reduceCtorEq, false_implies, true_implies, decide_eq_true_eq, decide_eq_false_iff_not, beq_self_eq_true, Bool.not_eq_true', ne_eq, Decidable.not_not, List.nil_append, List.length_singleton, List.length_cons, List.length_nil, Nat.zero_add, Nat.add_zero, Nat.mul_one, and_self, beq_iff_eq, Bool.not_true, Bool.not_false, Bool.not_eq_false', Bool.cond_false_right, Bool.and_eq_true, imp_self, Bool.not_eq_true, Bool.cond_true_left, Bool.or_eq_true]
  simp only [adft_eq3]
  rw [show bs { data := #[44] } = [44] by decide, show bs { data := #[61] } = [61] by decide, show bs { data := #[92] } = [92] by decide, bs_nil]
  refine ⟨⟨h1, h2⟩, ?_⟩
  rintro ⟨m, _⟩ _ em
  simp only at em ⊢
  refine ⟨fun hm => by rw [TextN, if_neg (by rw [← em, hm]; decide)], fun hm => ?_⟩
  subst em
  have hT : TextN l = (textN l, 0) := by rw [TextN, if_pos hm]
  obtain ⟨l16, hA⟩ := mayN_args hm
  refine ⟨fun y _ => 0 ≤ y.1 ∧ y.1 ≤ l.length ∧ y.2.1 = txtN l y.1.toNat, fun y _ => ((l.length : Int) - y.1).toNat, ⟨Int.le_refl 0, by simp only; omega, rfl⟩, ?_⟩
  rintro ⟨i, t, _⟩ _ _ ⟨i0, i1, et⟩
  simp only at i0 i1 et ⊢
  refine ⟨fun hlt => ?_, fun hge => by rw [hT, et, txtN_all (by omega)]⟩
  have hlen := txtN_len hA i.toNat (by omega)
  rw [← et] at hlen
  have hmem := mem_getD adft l i.toNat (by omega)
  have hl2 := label_len (l.getD i.toNat adft).1
  have hv := mayA_len (hA _ hmem)
  have hst := txtN_step (l := l) (i := i.toNat) (by omega)
  rw [← et] at hst
  refine ⟨fun u _ => u.1 = t ++ (if i.toNat = 0 then [] else [44]), ⟨fun hi => ⟨by omega, by rw [if_neg (by omega)]⟩, fun hi => by rw [if_pos (by omega), List.append_nil]⟩, ?_⟩
  rintro ⟨u, _⟩ _ _ eu
  simp only at eu ⊢
  have hu : u.length ≤ t.length + 1 := by rw [eu, List.length_append]; split <;> simp
  refine ⟨⟨i0, hlt⟩, ?_⟩
  rintro ⟨w, _⟩ _ ew
  simp only at ew ⊢
  subst ew
  refine ⟨by omega, by rw [List.length_append]; omega, ?_⟩
  refine ⟨fun y _ => 0 ≤ y.1 ∧ y.1 ≤ (l.getD i.toNat adft).2.length ∧ y.2.1 = u ++ labelK (l.getD i.toNat adft).1 ++ [61] ++ escD ((l.getD i.toNat adft).2.take y.1.toNat), fun y _ => (((l.getD i.toNat adft).2.length : Int) - y.1).toNat, ⟨Int.le_refl 0, by simp only; omega, by simp [escD]⟩, ?_⟩
  rintro ⟨k, q, _⟩ _ _ ⟨k0, k1, eq⟩
  simp only at k0 k1 eq ⊢
  have hql : q.length ≤ 3000 := by
    have := esc_len ((l.getD i.toNat adft).2.take k.toNat)
    rw [List.length_take] at this
    rw [eq]
    simp only [List.length_append, List.length_singleton]
    omega
  refine ⟨⟨i0, hlt⟩, fun hk => ⟨⟨i0, hlt⟩, ⟨k0, hk⟩, ?_⟩, fun hk => ?_⟩
  . have hts : escD ((l.getD i.toNat adft).2.take (k.toNat + 1)) = escD ((l.getD i.toNat adft).2.take k.toNat) ++ (if (l.getD i.toNat adft).2.getD k.toNat 0 = 44 ∨ (l.getD i.toNat adft).2.getD k.toNat 0 = 92 then [92, (l.getD i.toNat adft).2.getD k.toNat 0] else [(l.getD i.toNat adft).2.getD k.toNat 0]) := by
      rw [take_snoc (l.getD i.toNat adft).2 k.toNat (by omega), esc_snoc]
    refine ⟨fun u2 _ => u2.1 = q ++ (if (l.getD i.toNat adft).2.getD k.toNat 0 = 44 ∨ (l.getD i.toNat adft).2.getD k.toNat 0 = 92 then [92] else []), ⟨fun hc => ⟨by omega, by rw [if_pos hc]⟩, fun hc => ?_⟩, ?_⟩
    . rw [Bool.or_eq_false_iff] at hc
      rw [if_neg (fun h => h.elim (of_decide_eq_false hc.1) (of_decide_eq_false hc.2)), List.append_nil]
    . rintro ⟨u2, _⟩ _ _ eu2
      simp only at eu2 ⊢
      have hu2 : u2.length ≤ q.length + 1 := by rw [eu2, List.length_append]; split <;> simp
      rw [wrapK (k + 1) (by omega) (by omega)]
      refine ⟨by omega, ⟨by omega, by omega, ?_⟩, by omega⟩
      rw [show (k + 1).toNat = k.toNat + 1 by omega, hts, eu2, eq]
      split <;> simp
  . rw [wrapK (i + 1) (by omega) (by omega)]
    refine ⟨⟨by omega, by omega, ?_⟩, by omega⟩
    rw [show (i + 1).toNat = i.toNat + 1 by omega, hst, eq, eu, List.take_of_length_le (by omega), attrT]
    simp
theorem h18 : c_r12_Text.ok Tryz.prog GL 18 := con_ok (H := {joins := [9,16]}) (mkEnv_ok (gl := GL) (l := [(49, conSem c_r12_May), (50, conSem c_r12_Label)]) (q := []) (d := []) _ tyOk (by kernel_rfl) ⟨h49.call, h50.call, trivial⟩ trivial trivial) (by kernel_rfl) (by kernel_rfl) (Eq.mp e18 k18)
def t74 : Prop :=
  ∀ (x : q6), (q71 x) -> List.length x.1 <= q183 -> ∃ (I : Int × Int × Unit -> List (List Int) × Unit -> Prop), ∃ (μ : Int × Int × Unit -> List (List Int) × Unit -> Nat), (Value.slice none
  q74 q74 = Value.slice none q74 q74 /\ x.1 = x.1 /\ I (q40, q40, ()) ([], ())) /\ ∀ (y : q7) (z : q18), (q99 y) -> (q181 z) -> I y z -> (decide (y.1 < (lnZ x.1)) = true -> (q40 <= y.1 /\ y.1
  < (lnZ x.1)) /\ (decide (List.getD x.1 (q103 y) q40 = (92 : Int)) = true -> Value.slice none q74 q74 = Value.slice none q74 q74 /\ x.1 = x.1 /\ I (wrZ (y.1 + q77), y.2.1, ()) (z.1, ()) /\ μ
  (wrZ (y.1 + q77), y.2.1, ()) (z.1, ()) < μ y z) /\ (decide (List.getD x.1 (q103 y) q40 = (92 : Int)) = false -> (q40 <= y.1 /\ y.1 < (lnZ x.1)) /\ (decide (List.getD x.1 (q103 y) q40 = (44
  : Int)) = true -> (q40 <= y.2.1 /\ y.2.1 <= y.1 /\ y.1 <= (lnZ x.1)) /\ q74 < q42 /\ (List.length z.1 + List.length [List.drop (q100 y) (q182 y x)]) * (16 : Nat) <= q158 /\ List.length z.1
  + List.length [List.drop (q100 y) (q182 y x)] <= q157 /\ Value.slice none q74 q74 = Value.slice none q74 q74 /\ x.1 = x.1 /\ I (wrZ (q101 y), wrZ (q101 y), ()) (z.1 ++ [List.drop (q100 y)
  (q182 y x)], ()) /\ μ (wrZ (q101 y), wrZ (q101 y), ()) (z.1 ++ [List.drop (q100 y) (q182 y x)], ()) < μ y z) /\ (decide (List.getD x.1 (q103 y) q40 = (44 : Int)) = false -> Value.slice none
  q74 q74 = Value.slice none q74 q74 /\ x.1 = x.1 /\ I (wrZ (q101 y), y.2.1, ()) (z.1, ()) /\ μ (wrZ (q101 y), y.2.1, ()) (z.1, ()) < μ y z))) /\ (decide (y.1 < (lnZ x.1)) = false -> (q40 <=
  y.2.1 /\ y.2.1 <= (lnZ x.1)) /\ q74 < q42 /\ (List.length z.1 + List.length [List.drop (q100 y) x.1]) * (16 : Nat) <= q158 /\ List.length z.1 + List.length [List.drop (q100 y) x.1] <= q157
  /\ z.1 ++ [List.drop (q100 y) x.1] = partsE x.1)
theorem e74 : t74 = Con.vc c_r12_Parts GL (mkEnv ty [] [] [] [0, 2, 3, 4, 5, 9, 13, 19]) {} Tryz.f74.ntmps Tryz.f74.results.toList (bodyOf Tryz.f74) := by kernel_rfl
theorem k74 : t74 := by
  unfold t74
  delta q6 q71 q183 q74 q40 q7 q18 q99 q181 lnZ q103 wrZ q77 q42 q100 q182 q158 q157 q101 wsZ wiZ q458
  rintro ⟨s, _⟩ hx hp
  have hp : s.length ≤ 10000000 := hp
  try dsimp +instances only [dft_int, dft_sl, dft_str]
  simp only [true_and, and_true, eq_self_iff_true, implies_true, reduceCtorEq, false_implies, true_implies, decide_eq_true_eq, decide_eq_false_iff_not, beq_self_eq_true, Bool.not_eq_true', ne_eq, Decidable.not_not, List.nil_append, List.length_singleton, List.length_cons, List.length_nil, Nat.zero_add, Nat.add_zero, Nat.mul_one, and_self, beq_iff_eq, Bool.not_true, Bool.not_false, Bool.not_eq_false', Bool.cond_false_right, Bool.and_eq_true, imp_self, Bool.not_eq_true, Bool.cond_true_left, Bool.or_eq_true]
  refine ⟨fun y z => 0 ≤ y.1 ∧ y.1 ≤ s.length + 1 ∧ 0 ≤ y.2.1 ∧ y.2.1 ≤ y.1 ∧ y.2.1 ≤ s.length ∧ (z.1 : List (List Int)).length ≤ y.1 ∧ partsE s = z.1 ++ pcs s y.2.1.toNat y.1.toNat, fun y _ => ((s.length : Int) + 1 - y.1).toNat, ⟨Int.le_refl 0, by simp only; omega, Int.le_refl 0, Int.le_refl 0, by simp only; omega, by simp, rfl⟩, ?_⟩
  rintro ⟨i, f, _⟩ ⟨z, _⟩ _ _ ⟨i0, i1, f0, f1, f2, hz, e⟩
  simp only at i0 i1 f0 f1 f2 hz e ⊢
  refine ⟨fun hlt => ⟨⟨i0, hlt⟩, fun hc => ?_, fun hc => ⟨⟨i0, hlt⟩, fun h4 => ?_, fun h4 => ?_⟩⟩, fun hge => ?_⟩
  . rw [wrapK (i + 2) (by omega) (by omega)]
    refine ⟨⟨by omega, by omega, f0, by omega, f2, by omega, ?_⟩, by omega⟩
    rw [e, pcs_two (by omega) (by omega) hc, show i.toNat + 2 = (i + 2).toNat by omega]
  . rw [wrapK (i + 1) (by omega) (by omega)]
    refine ⟨⟨f0, f1, by omega⟩, by decide, by omega, by omega, ⟨by omega, by omega, by omega, by omega, by omega, by rw [List.length_append, List.length_singleton]; omega, ?_⟩, by omega⟩
    rw [e, pcs_comma (by omega) h4, show i.toNat + 1 = (i + 1).toNat by omega]
    simp
  . rw [wrapK (i + 1) (by omega) (by omega)]
    refine ⟨⟨by omega, by omega, f0, by omega, f2, by omega, ?_⟩, by omega⟩
    rw [e, pcs_one (by omega) (by omega) h4 hc, show i.toNat + 1 = (i + 1).toNat by omega]
  . refine ⟨⟨f0, f2⟩, by decide, by omega, by omega, ?_⟩
    rw [e, pcs_end (by omega)]
theorem h74 : c_r12_Parts.ok Tryz.prog GL 74 := con_ok (H := {}) (mkEnv_ok (gl := GL) (l := []) (q := []) (d := []) _ tyOk (by kernel_rfl) trivial trivial trivial) (by kernel_rfl) (by kernel_rfl) (Eq.mp e74 k74)
end Go.Proofs.YtlpbhgcndebkcaaGreatDoor
end
