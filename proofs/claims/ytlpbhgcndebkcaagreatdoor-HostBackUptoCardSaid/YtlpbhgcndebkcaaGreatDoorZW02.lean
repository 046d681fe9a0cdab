/- Texts of a verified walk, led together: NameA, NameW, Name2aA, Name2aW. -/
import Derived.Test.YtlpbhgcndebkcaaGreatDoorZW01
import Derived.Test.YtlpbhgcndebkcaaGreatDoorZV07
set_option linter.unusedVariables false
set_option linter.unusedSimpArgs false
section
namespace Go.Proofs.YtlpbhgcndebkcaaGreatDoor
open Go Go.Vc Go.Pl Go.Proofs
def c_name_label : Con := { args := [.dat I64], res := [.dat .str], pre := fun _ => True, post := fun x y => y.1 = labelK x.1 }
def c_name_capitals : Con := { args := [.dat .str], res := [.dat .bool], pre := fun _ => True, post := fun x y => y.1 = capsD x.1 }
def c_name_may : Con := { args := [.dat AT], res := [.dat .bool], pre := fun _ => True, post := fun x y => y.1 = mayA x.1 }
def c_name_May : Con := { args := [.dat (.sl AT)], res := [.dat .bool], pre := fun _ => True, post := fun x y => y.1 = mayN x.1 }
end Go.Proofs.YtlpbhgcndebkcaaGreatDoor
end
section
namespace Go.Proofs.YtlpbhgcndebkcaaGreatDoor
open Go Go.Vc Go.Pl Go.Proofs
set_option linter.unusedVariables false
set_option linter.unusedSimpArgs false
theorem adft_eq : Kd.dft (Kd.pair (Kd.int IntKind.i64) Kd.str) = adft := rfl
abbrev q15 := ((Int × List Int) × Unit)
abbrev q16 := (List (Int × List Int) × Unit)
abbrev q540 := (0 : Nat)
abbrev q419 (p0 : q6) := (q525 <= List.getD p0.1 q540 q529)
abbrev q420 (p0 : q6) := (List.getD p0.1 q540 q529 <= (90 : Int))
abbrev q134 (p0 : q6) := ((bif bif bif decide ((lnZ p0.1) = q445) then decide (q419 p0) else false then decide (q420 p0) else false then decide (q525 <= List.getD p0.1 q527 q421) else
  false) == true)
abbrev q135 (p0 : q6) := (bif bif bif decide ((lnZ p0.1) = q445) then decide (q419 p0) else false then decide (q420 p0) else false then decide (q525 <= List.getD p0.1 q527 q421) else false)
abbrev q136 (p0 : q6) := ((bif bif decide ((lnZ p0.1) = q445) then decide (q419 p0) else false then decide (q420 p0) else false) == true)
abbrev q137 (p0 : q6) := (bif bif decide ((lnZ p0.1) = q445) then decide (q419 p0) else false then decide (q420 p0) else false)
abbrev q138 (p0 : q6) := ((bif decide ((lnZ p0.1) = q445) then decide (q419 p0) else false) == true)
abbrev q139 (p0 : q6) := (bif decide ((lnZ p0.1) = q445) then decide (q419 p0) else false)
abbrev q140 (p0 : q6) := ((lnZ p0.1) = q445)
abbrev q422 (p0 : q6) (p1 : q15) := (bif decide (p0.1 = bs { data := #[] }) then true else decide (p1.1.2 = bs { data := #[] }))
abbrev q141 (p0 : q6) (p1 : q15) := ((q422 p0 p1) = false -> ((q422 p0 p1) == false) = true /\ True)
abbrev q455 (p0 : q6) := (p0.1 = bs { data := #[] })
abbrev q142 (p0 : q6) (p1 : q15) := ((bif bif decide (q455 p0) then true else decide (p1.1.2 = bs { data := #[] }) then true else decide ((64 : Int) < (lnZ p1.1.2))) == false)
abbrev q143 (p0 : q6) (p1 : q15) := (bif bif decide (q455 p0) then true else decide (p1.1.2 = bs { data := #[] }) then true else decide ((64 : Int) < (lnZ p1.1.2)))
abbrev q144 (p0 : q6) := (decide (q455 p0) = false -> (decide (q455 p0) == false) = true /\ True)
abbrev q145 (p0 : q6) := (decide (q455 p0) = false -> (decide (q455 p0) == false) = true)
abbrev q541 := (Kd.int IntKind.i64)
abbrev q484 := (Kd.pair q541 Kd.str)
abbrev q146 (p0 : q15) := (Kd.wf q484 p0.1 /\ True)
abbrev q147 (p0 : q6) := (decide (q455 p0) = false -> True)
abbrev q148 := (Kd.int IntKind.i64)
abbrev q485 := (Kd.dft (Kd.pair (Kd.int IntKind.i64) Kd.str))
abbrev q149 (p0 : q16) (p1 : q10) := (List.getD p0.1 (q418 p1) q485)
abbrev q150 (p0 : q16) := (Kd.wf (Kd.sl q484) p0.1 /\ True)
abbrev q423 := (16 : Int)
def t44 : Prop :=
  ∀ (x : q1), (q36 x) -> True -> (decide (x.1 = (3 : Int)) = true -> bs { data := #[(67 : UInt8), (78 : UInt8)] } = labelK x.1) /\ (decide (x.1 = (3 : Int)) = false -> (decide (x.1 = (5 :
  Int)) = true -> bs { data := #[(83 : UInt8), (78 : UInt8)] } = labelK x.1) /\ (decide (x.1 = (5 : Int)) = false -> (decide (x.1 = (6 : Int)) = true -> bs { data := #[(67 : UInt8)] } =
  labelK x.1) /\ (decide (x.1 = (6 : Int)) = false -> (decide (x.1 = (7 : Int)) = true -> bs { data := #[(76 : UInt8)] } = labelK x.1) /\ (decide (x.1 = (7 : Int)) = false -> (decide (x.1 =
  (8 : Int)) = true -> bs { data := #[(83 : UInt8), (84 : UInt8)] } = labelK x.1) /\ (decide (x.1 = (8 : Int)) = false -> (decide (x.1 = (10 : Int)) = true -> bs { data := #[(79 : UInt8)] } =
  labelK x.1) /\ (decide (x.1 = (10 : Int)) = false -> (decide (x.1 = (11 : Int)) = true -> bs { data := #[(79 : UInt8), (85 : UInt8)] } = labelK x.1) /\ (decide (x.1 = (11 : Int)) = false ->
  bs { data := #[] } = labelK x.1)))))))
theorem e44 : t44 = Con.vc c_name_label GL (mkEnv ty [] [] [] [0, 2, 3, 4, 6, 8, 10, 12, 14, 16]) {} Tryz.f44.ntmps Tryz.f44.results.toList (bodyOf Tryz.f44) := by kernel_rfl
theorem k44 : t44 := by
  unfold t44
  delta q1 q36 wiZ
  rintro ⟨l, _⟩ hx hp
  try dsimp +instances only [dft_int, dft_sl, dft_str]
  simp only [true_and, and_true, eq_self_iff_true, implies_true, reduceCtorEq, false_implies, true_implies, decide_eq_true_eq, decide_eq_false_iff_not, beq_self_eq_true, Bool.not_eq_true', ne_eq, Decidable.not_not, List.nil_append, List.length_singleton, List.length_cons, List.length_nil, Nat.zero_add, Nat.add_zero, Nat.mul_one, and_self, beq_iff_eq, Bool.not_true, Bool.not_false, Bool.not_eq_false', Bool.cond_false_right, Bool.and_eq_true, imp_self, Bool.not_eq_true, Bool.cond_true_left, Bool.or_eq_true]
  have e1 : bs { data := #[67, 78] } = [67, 78] := by decide
  have e2 : bs { data := #[83, 78] } = [83, 78] := by decide
  have e3 : bs { data := #[67] } = [67] := by decide
  have e4 : bs { data := #[76] } = [76] := by decide
  have e5 : bs { data := #[83, 84] } = [83, 84] := by decide
  have e6 : bs { data := #[79] } = [79] := by decide
  have e7 : bs { data := #[79, 85] } = [79, 85] := by decide
  rw [e1, e2, e3, e4, e5, e6, e7, bs_nil]
  unfold labelK
  refine ⟨fun h => by rw [if_pos h], fun h1 => ⟨fun h => by rw [if_neg h1, if_pos h], fun h2 => ⟨fun h => by rw [if_neg h1, if_neg h2, if_pos h], fun h3 => ⟨fun h => by rw [if_neg h1, if_neg h2, if_neg h3, if_pos h], fun h4 => ⟨fun h => by rw [if_neg h1, if_neg h2, if_neg h3, if_neg h4, if_pos h], fun h5 => ⟨fun h => by rw [if_neg h1, if_neg h2, if_neg h3, if_neg h4, if_neg h5, if_pos h], fun h6 => ⟨fun h => by rw [if_neg h1, if_neg h2, if_neg h3, if_neg h4, if_neg h5, if_neg h6, if_pos h], fun h7 => by rw [if_neg h1, if_neg h2, if_neg h3, if_neg h4, if_neg h5, if_neg h6, if_neg h7]⟩⟩⟩⟩⟩⟩⟩
theorem h44 : c_name_label.ok Tryz.prog GL 44 := con_ok (H := {}) (mkEnv_ok (gl := GL) (l := []) (q := []) (d := []) _ tyOk (by kernel_rfl) trivial trivial trivial) (by kernel_rfl) (by kernel_rfl) (Eq.mp e44 k44)
def t104 : Prop :=
  ∀ (x : q6), (q71 x) -> True -> (decide (q140 x) = true -> True) /\ (decide (q140 x) = true -> (decide (q140 x) == true) = true /\ (q67 x) /\ True) /\ (decide (q140 x) = true -> (decide
  (q140 x) == true) = true /\ True) /\ (decide (q140 x) = true -> (decide (q140 x) == true) = true) /\ ((q139 x) = true -> True) /\ ((q139 x) = true -> (q138 x) = true /\ (q67 x) /\ True) /\
  ((q139 x) = true -> (q138 x) = true /\ True) /\ ((q139 x) = true -> (q138 x) = true) /\ ((q137 x) = true -> True) /\ ((q137 x) = true -> (q136 x) = true /\ (q68 x) /\ True) /\ ((q137 x) =
  true -> (q136 x) = true /\ True) /\ ((q137 x) = true -> (q136 x) = true) /\ ((q135 x) = true -> True) /\ ((q135 x) = true -> (q134 x) = true /\ (q68 x) /\ True) /\ ((q135 x) = true -> (q134
  x) = true /\ True) /\ ((q135 x) = true -> (q134 x) = true) /\ (bif bif bif bif decide (q140 x) then decide (q419 x) else false then decide (q420 x) else false then decide (q525 <= List.getD
  x.1 q527 q421) else false then decide (List.getD x.1 q42 q40 <= (90 : Int)) else false) = capsD x.1
theorem e104 : t104 = Con.vc c_name_capitals GL (mkEnv ty [] [] [] [0, 2]) {} Tryz.f104.ntmps Tryz.f104.results.toList (bodyOf Tryz.f104) := by kernel_rfl
theorem k104 : t104 := by
  unfold t104
  delta q6 q71 q140 q67 q139 q138 q137 q136 q68 q135 q134 q419 q420 q525 q527 q421 q42 q40 wsZ lnZ q445 q458 q540 q529
  rintro ⟨l, _⟩ hx hp
  try dsimp +instances only [dft_int, dft_sl, dft_str]
  simp only [true_and, and_true, eq_self_iff_true, implies_true, reduceCtorEq, false_implies, true_implies, decide_eq_true_eq, decide_eq_false_iff_not, beq_self_eq_true, Bool.not_eq_true', ne_eq, Decidable.not_not, List.nil_append, List.length_singleton, List.length_cons, List.length_nil, Nat.zero_add, Nat.add_zero, Nat.mul_one, and_self, beq_iff_eq, Bool.not_true, Bool.not_false, Bool.not_eq_false', Bool.cond_false_right, Bool.and_eq_true, imp_self, Bool.not_eq_true, Bool.cond_true_left, Bool.or_eq_true]
  refine ⟨fun h => ⟨h, by decide, by omega⟩, fun h => ⟨h, by decide, by omega⟩, fun h => ⟨h, by decide, by omega⟩, fun h => ⟨h, by decide, by omega⟩, ?_⟩
  rw [Bool.eq_iff_iff, capsD]
  simp only [Bool.and_eq_true, decide_eq_true_eq]
  omega
theorem h104 : c_name_capitals.ok Tryz.prog GL 104 := con_ok (H := {}) (mkEnv_ok (gl := GL) (l := []) (q := []) (d := []) _ tyOk (by kernel_rfl) trivial trivial trivial) (by kernel_rfl) (by kernel_rfl) (Eq.mp e104 k104)
def t70 : Prop :=
  ∀ (x : q15), (q146 x) -> True -> List.length [SV.dat q148 x.1.1, SV.dat Kd.str x.1.2] <= q72 /\ True /\ (∀ (y : q6), (q71 y) -> y.1 = labelK x.1.1 -> (q147 y) /\ (q144 y) /\ (q144 y) /\
  (q145 y) /\ ((q422 y x) = false -> True) /\ (q141 y x) /\ (q141 y x) /\ (q141 y x) /\ ((q422 y x) = false -> ((q422 y x) == false) = true) /\ ((q143 y x) = false -> True) /\ ((q143 y x) =
  false -> (q142 y x) = true /\ True) /\ ((q143 y x) = false -> (q142 y x) = true /\ True /\ (∀ (y : q4), (q49 y) -> y.1 = mayD q73 x.1.2 -> ((!y.1) = true -> false = mayA x.1) /\ ((!y.1) =
  false -> (decide (x.1.1 = (6 : Int)) = true -> True /\ (∀ (y : q4), (q49 y) -> y.1 = capsD x.1.2 -> ((!y.1) = true -> false = mayA x.1) /\ ((!y.1) = false -> True /\ (∀ (y : q4), (q49 y) ->
  y.1 = mayD (19 : Int) x.1.2 -> y.1 = mayA x.1) /\ True)) /\ True) /\ (decide (x.1.1 = (6 : Int)) = false -> (decide (x.1.1 = (5 : Int)) = true -> True /\ (∀ (y : q4), (q49 y) -> y.1 = mayD
  (19 : Int) x.1.2 -> y.1 = mayA x.1) /\ True) /\ (decide (x.1.1 = (5 : Int)) = false -> true = mayA x.1)))) /\ True) /\ ((q143 y x) = !false -> false = mayA x.1)) /\ True
theorem e70 : t70 = Con.vc c_name_may GL (mkEnv ty [(44, conSem c_name_label), (103, conSem c_text_May), (104, conSem c_name_capitals)] [] [] [0, 1, 2, 23, 25, 26, 28, 33]) {} Tryz.f70.ntmps Tryz.f70.results.toList (bodyOf Tryz.f70) := by kernel_rfl
theorem k70 : t70 := by
  unfold t70
  delta q15 q146 q148 q72 q6 q71 q147 q144 q145 q422 q141 q143 q142 q4 q49 q73 q484 wsZ q455 lnZ wbZ q541
  rintro ⟨⟨k, v⟩, _⟩ hx hp
  try dsimp +instances only [dft_int, dft_sl, dft_str]
  simp only [true_and, and_true, eq_self_iff_true, implies_true, reduceCtorEq, false_implies, true_implies, decide_eq_true_eq, decide_eq_false_iff_not, beq_self_eq_true, Bool.not_eq_true', ne_eq, Decidable.not_not, List.nil_append, List.length_singleton, List.length_cons, List.length_nil, Nat.zero_add, Nat.add_zero, Nat.mul_one, and_self, beq_iff_eq, Bool.not_true, Bool.not_false, Bool.not_eq_false', Bool.cond_false_right, Bool.and_eq_true, imp_self, Bool.not_eq_true, Bool.cond_true_left, Bool.or_eq_true]
  rw [bs_nil]
  refine ⟨by decide, ?_⟩
  rintro ⟨a, _⟩ _ ea
  simp only at ea ⊢
  subst ea
  have hv : v = [] ↔ v.length = 0 := ⟨fun h => by rw [h]; rfl, List.eq_nil_of_length_eq_zero⟩
  simp only [Bool.or_eq_false_iff, decide_eq_false_iff_not]
  refine ⟨fun h => ⟨h, ?_⟩, fun h => ?_⟩
  . have hM : mayA (k, v) = (mayD 12 v && (if k = 6 then capsD v && mayD 19 v else if k = 5 then mayD 19 v else true)) := by
      rw [mayA, decide_eq_true ⟨h.1.1, h.1.2, by simp only; omega⟩]; rfl
    rintro ⟨b, _⟩ _ eb
    simp only at eb ⊢
    rw [hM, ← eb]
    refine ⟨fun hb => by rw [hb]; rfl, fun hb => ?_⟩
    rw [hb]
    refine ⟨fun hk => ?_, fun hk => ⟨fun hk5 => ?_, fun hk5 => by rw [if_neg hk, if_neg hk5]; rfl⟩⟩
    . rintro ⟨c, _⟩ _ ec
      simp only at ec ⊢
      rw [if_pos hk, ← ec]
      refine ⟨fun hc => by rw [hc]; rfl, fun hc => ?_⟩
      rintro ⟨d, _⟩ _ ed
      simp only at ed ⊢
      rw [hc, ed]; rfl
    . rintro ⟨d, _⟩ _ ed
      simp only at ed ⊢
      rw [if_neg hk, if_pos hk5, ed]; rfl
  . have key : ¬ (labelK k ≠ [] ∧ v ≠ [] ∧ v.length ≤ 64) := by
      rintro ⟨h1, h2, h3⟩
      rcases h with (h | h) | h
      . exact h1 h
      . exact h2 h
      . omega
    rw [mayA]
    simp only
    rw [decide_eq_false key]; rfl
theorem h70 : c_name_may.ok Tryz.prog GL 70 := con_ok (H := {}) (mkEnv_ok (gl := GL) (l := [(44, conSem c_name_label), (103, conSem c_text_May), (104, conSem c_name_capitals)]) (q := []) (d := []) _ tyOk (by kernel_rfl) ⟨h44.call, h103.call, h104.call, trivial⟩ trivial trivial) (by kernel_rfl) (by kernel_rfl) (Eq.mp e70 k70)
def t43 : Prop :=
  ∀ (x : q16), (q150 x) -> True -> (decide (q423 < (lnZ x.1)) = true -> false = mayN x.1) /\ (decide (q423 < (lnZ x.1)) = false -> ∃ (I : q8), ∃ (μ : q9), ((lnZ x.1) = (lnZ x.1) /\ x.1 = x.1
  /\ Value.bool false = Value.bool false /\ x.1 = x.1 /\ I (q40, false, ()) ()) /\ ∀ (y : q10) (z : Unit), (q87 y) -> True -> I y z -> (decide (y.1 < (lnZ x.1)) = true -> (q40 <= y.1 /\ y.1 <
  (lnZ x.1)) /\ q76 <= q72 /\ True /\ (∀ (y_1 : q4), (q49 y_1) -> y_1.1 = mayA ((q149 x y).1, (q149 x y).2) -> ((!y_1.1) = true -> false = mayN x.1) /\ ((!y_1.1) = false -> (lnZ x.1) = (lnZ
  x.1) /\ x.1 = x.1 /\ Value.bool false = Value.bool false /\ x.1 = x.1 /\ I (wrZ (q89 y), y.2.1, ()) () /\ μ (wrZ (q89 y), y.2.1, ()) () < μ y z)) /\ True) /\ (decide (y.1 < (lnZ x.1)) =
  false -> true = mayN x.1))
theorem e43 : t43 = Con.vc c_name_May GL (mkEnv ty [(70, conSem c_name_may)] [] [] [0, 2, 4, 7, 8, 9, 10, 11, 16]) {} Tryz.f43.ntmps Tryz.f43.results.toList (bodyOf Tryz.f43) := by kernel_rfl
theorem k43 : t43 := by
  unfold t43
  delta q16 q150 q423 lnZ q8 q9 q40 q10 q87 q76 q72 q4 q49 q149 wrZ q89 q484 wiZ wbZ q418 q485 q458 q541
  rintro ⟨l, _⟩ hx hp
  try dsimp +instances only [dft_int, dft_sl, dft_str]
  simp only [true_and, and_true, eq_self_iff_true, implies_true, reduceCtorEq, false_implies, true_implies, decide_eq_true_eq, decide_eq_false_iff_not, beq_self_eq_true, Bool.not_eq_true', ne_eq, Decidable.not_not, List.nil_append, List.length_singleton, List.length_cons, List.length_nil, Nat.zero_add, Nat.add_zero, Nat.mul_one, and_self, beq_iff_eq, Bool.not_true, Bool.not_false, Bool.not_eq_false', Bool.cond_false_right, Bool.and_eq_true, imp_self, Bool.not_eq_true, Bool.cond_true_left, Bool.or_eq_true]
  simp only [adft_eq]
  refine ⟨fun h => by rw [mayN, decide_eq_false (by omega)]; rfl, fun h => ?_⟩
  have hM : mayN l = l.all mayA := by rw [mayN, decide_eq_true (by omega)]; rfl
  rw [hM]
  refine ⟨fun y _ => 0 ≤ y.1 ∧ y.1 ≤ l.length ∧ ∀ j, j < y.1.toNat → mayA (l.getD j adft) = true, fun y _ => ((l.length : Int) - y.1).toNat, ⟨Int.le_refl 0, by simp only; omega, fun j hj => by simp at hj⟩, ?_⟩
  rintro ⟨i, b, _⟩ _ _ ⟨i0, i1, i2⟩
  simp only at i0 i1 i2 ⊢
  have hw1 : IntKind.wrap .i64 (i + 1) = i + 1 := wrapK _ (by omega) (by omega)
  rw [hw1]
  refine ⟨fun hlt => ⟨⟨i0, hlt⟩, by decide, ?_⟩, fun hge => (all_getA adft _ _ (fun j hj => i2 j (by omega))).symm⟩
  rintro ⟨c, _⟩ _ ec
  simp only at ec ⊢
  refine ⟨fun hc => (all_notA adft _ _ i.toNat (by omega) (ec.symm.trans hc)).symm, fun hc => ⟨⟨by omega, by omega, fun j hj => ?_⟩, by omega⟩⟩
  by_cases hji : j < i.toNat
  . exact i2 j hji
  . rw [show j = i.toNat by omega]; exact ec.symm.trans hc
theorem h43 : c_name_May.ok Tryz.prog GL 43 := con_ok (H := {}) (mkEnv_ok (gl := GL) (l := [(70, conSem c_name_may)]) (q := []) (d := []) _ tyOk (by kernel_rfl) ⟨h70.call, trivial⟩ trivial trivial) (by kernel_rfl) (by kernel_rfl) (Eq.mp e43 k43)
end Go.Proofs.YtlpbhgcndebkcaaGreatDoor
end
section
namespace Go.Proofs.YtlpbhgcndebkcaaGreatDoor
open Go Go.Vc Go.Pl Go.Proofs
end Go.Proofs.YtlpbhgcndebkcaaGreatDoor
end
section
namespace Go.Proofs.YtlpbhgcndebkcaaGreatDoor
open Go Go.Vc Go.Pl Go.Proofs
set_option linter.unusedVariables false
set_option linter.unusedSimpArgs false
theorem dec_not {p : Prop} {d : Decidable (¬ p)} (h : @decide (¬ p) d = false) : p := Classical.not_not.1 (of_decide_eq_false h)
end Go.Proofs.YtlpbhgcndebkcaaGreatDoor
end
