/- Texts of a verified walk, led together: NampA, NampW. -/
import Derived.Test.YtiofbnlbfmbodaaGreatDoorZW02
import Derived.Test.YtiofbnlbfmbodaaGreatDoorZV09
set_option linter.unusedVariables false
set_option linter.unusedSimpArgs false
section
namespace Go.Proofs.YtiofbnlbfmbodaaGreatDoor
open Go Go.Vc Go.Pl Go.Proofs
def c_r12_Label : Con := { args := [.dat I64], res := [.dat .str], pre := fun _ => True, post := fun x y => y.1 = labelK x.1 }
def c_r12_MayAttr : Con := { args := [.dat AT], res := [.dat .bool], pre := fun x => x.1.2.length ≤ 100000000, post := fun x y => y.1 = mayA x.1 }
def c_r12_May : Con := { args := [.dat (.sl AT)], res := [.dat .bool], pre := fun x => x.1.length ≤ 1000000000 ∧ ∀ a ∈ x.1, a.2.length ≤ 100000000, post := fun x y => y.1 = mayN x.1 }
end Go.Proofs.YtiofbnlbfmbodaaGreatDoor
end
section
namespace Go.Proofs.YtiofbnlbfmbodaaGreatDoor
open Go Go.Vc Go.Pl Go.Proofs
set_option linter.unusedVariables false
set_option linter.unusedSimpArgs false
theorem adft_eq3 : Kd.dft (Kd.pair (Kd.int IntKind.i64) Kd.str) = adft := rfl
abbrev q14 := (List (Int × List Int) × Unit)
abbrev q141 (p0 : q1) := (decide (p0.1 < q379) == false)
abbrev q437 (p0 : q13) := (bif bif bif decide ((lnZ p0.1.2) = (2 : Int)) then decide (q481 <= List.getD p0.1.2 q493 q482) else false then decide (List.getD p0.1.2 q493 q482 <= (90 : Int))
  else false then decide (q481 <= List.getD p0.1.2 (1 : Nat) q482) else false)
abbrev q142 (p0 : q13) := ((q437 p0) = true -> ((q437 p0) == true) = true /\ True)
abbrev q438 (p0 : q13) := (bif bif decide ((lnZ p0.1.2) = (2 : Int)) then decide (q481 <= List.getD p0.1.2 q493 q482) else false then decide (List.getD p0.1.2 q493 q482 <= (90 : Int)) else
  false)
abbrev q143 (p0 : q13) := ((q438 p0) = true -> ((q438 p0) == true) = true /\ True)
abbrev q144 (p0 : q13) := ((q437 p0) == true)
abbrev q392 (p0 : q13) := ((lnZ p0.1.2) = (2 : Int))
abbrev q390 (p0 : q13) := (q481 <= List.getD p0.1.2 q493 q482)
abbrev q391 (p0 : q13) := (List.getD p0.1.2 q493 q482 <= (90 : Int))
abbrev q145 (p0 : q13) := (bif bif bif decide (q392 p0) then decide (q390 p0) else false then decide (q391 p0) else false then decide (q481 <= List.getD p0.1.2 (1 : Nat) q482) else false)
abbrev q439 (p0 : q13) := (bif decide ((lnZ p0.1.2) = (2 : Int)) then decide (q481 <= List.getD p0.1.2 q493 q482) else false)
abbrev q146 (p0 : q13) := ((q439 p0) = true -> ((q439 p0) == true) = true /\ True)
abbrev q389 (p0 : q5) (p1 : q13) := (bif decide (p0.1 = bs { data := #[] }) then true else decide ((lnZ p1.1.2) < (1 : Int)))
abbrev q147 (p0 : q5) (p1 : q13) := ((q389 p0 p1) = false -> ((q389 p0 p1) == false) = true /\ True)
abbrev q148 (p0 : q13) := ((q438 p0) == true)
abbrev q149 (p0 : q13) := (bif bif decide (q392 p0) then decide (q390 p0) else false then decide (q391 p0) else false)
abbrev q150 (p0 : q5) (p1 : q13) := ((bif bif decide (q436 p0) then true else decide ((lnZ p1.1.2) < q417) then true else decide ((64 : Int) < (lnZ p1.1.2))) == false)
abbrev q151 (p0 : q5) (p1 : q13) := (bif bif decide (q436 p0) then true else decide ((lnZ p1.1.2) < q417) then true else decide ((64 : Int) < (lnZ p1.1.2)))
abbrev q152 (p0 : q13) := ((q439 p0) == true)
abbrev q153 (p0 : q13) := (bif decide (q392 p0) then decide (q390 p0) else false)
abbrev q154 (p0 : q13) := (decide (q392 p0) = true -> (decide (q392 p0) == true) = true /\ True)
abbrev q155 := (100000000 : Nat)
abbrev q500 := (Kd.pair (Kd.int IntKind.i64) Kd.str)
abbrev q440 := (Kd.sl q500)
abbrev q156 (p0 : q14) := (Kd.wf q440 p0.1 /\ True)
abbrev q393 := (Kd.dft q500)
def t190 : Prop :=
  ∀ (x : q1), (q36 x) -> True -> (decide (x.1 < q379) = false -> True) /\ (decide (x.1 < q379) = false -> True) /\ (decide (x.1 < q379) = false -> (q141 x) = true /\ True) /\ (decide (x.1 <
  q379) = false -> (q141 x) = true /\ (q141 x) = true /\ True) /\ (decide (x.1 < q379) = false -> (q141 x) = true) /\ ((bif decide (x.1 < q379) then true else decide ((↑(12 : Nat) : Int) <=
  x.1)) = true -> bs { data := #[] } = labelK x.1) /\ ((bif decide (x.1 < q379) then true else decide ((↑(12 : Nat) : Int) <= x.1)) = false -> (q40 <= x.1 /\ x.1 < (↑(12 : Nat) : Int)) /\
  List.getD [bs { data := #[] }, bs { data := #[] }, bs { data := #[] }, bs { data := #[(67 : UInt8), (78 : UInt8)] }, bs { data := #[] }, bs { data := #[(83 : UInt8), (78 : UInt8)] }, bs {
  data := #[(67 : UInt8)] }, bs { data := #[(76 : UInt8)] }, bs { data := #[(83 : UInt8), (84 : UInt8)] }, bs { data := #[] }, bs { data := #[(79 : UInt8)] }, bs { data := #[(79 : UInt8), (85
  : UInt8)] }] (q377 x) (Kd.dft Kd.str) = labelK x.1)
theorem e190 : t190 = Con.vc c_r12_Label GL (mkEnv ty [] [] [] [0, 2, 3, 12]) {} Tryz.f190.ntmps Tryz.f190.results.toList (bodyOf Tryz.f190) := by kernel_rfl
theorem k190 : t190 := by
  unfold t190
  delta q1 q36 q379 q141 q40 q377 wiZ
  rintro ⟨k, _⟩ hx hp
  try dsimp +instances only [dft_int, dft_sl, dft_str]
  simp only [true_and, and_true, eq_self_iff_true, implies_true, reduceCtorEq, false_implies, true_implies, decide_eq_true_eq, decide_eq_false_iff_not, beq_self_eq_true, Bool.not_eq_true', ne_eq, Decidable.not_not, List.nil_append, List.length_singleton, List.length_cons, List.length_nil, Nat.zero_add, Nat.add_zero, Nat.mul_one, and_self, beq_iff_eq, Bool.not_true, Bool.not_false, Bool.not_eq_false', Bool.cond_false_right, Bool.and_eq_true, imp_self, Bool.not_eq_true, Bool.cond_true_left, Bool.or_eq_true]
  rw [bs_nil, show bs { data := #[67, 78] } = [67, 78] by decide, show bs { data := #[83, 78] } = [83, 78] by decide, show bs { data := #[67] } = [67] by decide, show bs { data := #[76] } = [76] by decide, show bs { data := #[83, 84] } = [83, 84] by decide, show bs { data := #[79] } = [79] by decide, show bs { data := #[79, 85] } = [79, 85] by decide]
  refine ⟨fun h => (label_out (by omega)).symm, fun h => ?_⟩
  simp only [Bool.or_eq_false_iff, decide_eq_false_iff_not] at h
  exact ⟨⟨by omega, by omega⟩, labels12 (by omega) (by omega)⟩
theorem h190 : c_r12_Label.ok Tryz.prog GL 190 := con_ok (H := {}) (mkEnv_ok (gl := GL) (l := []) (q := []) (d := []) _ tyOk (by kernel_rfl) trivial trivial trivial) (by kernel_rfl) (by kernel_rfl) (Eq.mp e190 k190)
def t183 : Prop :=
  ∀ (x : q13), (q138 x) -> List.length x.1.2 <= q155 -> List.length [SV.dat q140 x.1.1, SV.dat Kd.str x.1.2] <= q69 /\ True /\ (∀ (y : q5), (q68 y) -> y.1 = labelK x.1.1 -> (q139 y) /\ (q136
  y) /\ (q136 y) /\ (q136 y) /\ (q137 y) /\ ((q389 y x) = false -> True) /\ (q147 y x) /\ (q147 y x) /\ (q147 y x) /\ ((q389 y x) = false -> ((q389 y x) == false) = true) /\ ((q151 y x) =
  false -> True) /\ ((q151 y x) = false -> (q150 y x) = true /\ True) /\ ((q151 y x) = false -> (q150 y x) = true /\ List.length x.1.2 <= q84 /\ (∀ (y : q4), (q47 y) -> y.1 = mayD q70 x.1.2
  -> ((!y.1) = true -> false = mayA x.1) /\ ((!y.1) = false -> (decide (x.1.1 = (5 : Int)) = true -> List.length x.1.2 <= q84 /\ (∀ (y : q4), (q47 y) -> y.1 = mayD q118 x.1.2 -> y.1 = mayA
  x.1) /\ True) /\ (decide (x.1.1 = (5 : Int)) = false -> (decide (x.1.1 = (6 : Int)) = true -> (decide (q392 x) = true -> True) /\ (q154 x) /\ (decide (q392 x) = true -> (decide (q392 x) ==
  true) = true /\ (q40 <= q40 /\ q40 < (lnZ x.1.2)) /\ True) /\ (q154 x) /\ (decide (q392 x) = true -> (decide (q392 x) == true) = true) /\ ((q153 x) = true -> True) /\ (q146 x) /\ ((q153 x)
  = true -> (q152 x) = true /\ (q40 <= q40 /\ q40 < (lnZ x.1.2)) /\ True) /\ (q146 x) /\ ((q153 x) = true -> (q152 x) = true) /\ ((q149 x) = true -> True) /\ (q143 x) /\ ((q149 x) = true ->
  (q148 x) = true /\ (q40 <= q72 /\ q72 < (lnZ x.1.2)) /\ True) /\ (q143 x) /\ ((q149 x) = true -> (q148 x) = true) /\ ((q145 x) = true -> True) /\ (q142 x) /\ ((q145 x) = true -> (q144 x) =
  true /\ (q40 <= q72 /\ q72 < (lnZ x.1.2)) /\ True) /\ (q142 x) /\ ((q145 x) = true -> (q144 x) = true) /\ (bif bif bif bif decide (q392 x) then decide (q390 x) else false then decide (q391
  x) else false then decide (q481 <= List.getD x.1.2 (1 : Nat) q482) else false then decide (List.getD x.1.2 q42 q40 <= (90 : Int)) else false) = mayA x.1) /\ (decide (x.1.1 = (6 : Int)) =
  false -> true = mayA x.1)))) /\ True) /\ ((q151 y x) = !false -> false = mayA x.1)) /\ True
theorem e183 : t183 = Con.vc c_r12_MayAttr GL (mkEnv ty [(190, conSem c_r12_Label), (184, conSem c_r05_May)] [] [] [0, 1, 2, 24, 27, 33]) {} Tryz.f183.ntmps Tryz.f183.results.toList (bodyOf Tryz.f183) := by kernel_rfl
theorem k183 : t183 := by
  unfold t183
  delta q13 q138 q155 q140 q69 q5 q68 q139 q136 q137 q389 q147 q151 q150 q84 q4 q47 q70 q118 q392 q154 q40 lnZ q153 q146 q152 q149 q143 q148 q72 q145 q142 q144 q390 q391 q481 q482 q42 q415 wsZ q436 q417 wbZ q439 q438 q437 q493 q494
  rintro ⟨⟨k, v⟩, _⟩ hx hp
  have hp : v.length ≤ 100000000 := hp
  try dsimp +instances only [dft_int, dft_sl, dft_str]
  simp only [true_and, and_true, eq_self_iff_true, implies_true, reduceCtorEq, false_implies, true_implies, decide_eq_true_eq, decide_eq_false_iff_not, beq_self_eq_true, Bool.not_eq_true', ne_eq, Decidable.not_not, List.nil_append, List.length_singleton, List.length_cons, List.length_nil, Nat.zero_add, Nat.add_zero, Nat.mul_one, and_self, beq_iff_eq, Bool.not_true, Bool.not_false, Bool.not_eq_false', Bool.cond_false_right, Bool.and_eq_true, imp_self, Bool.not_eq_true, Bool.cond_true_left, Bool.or_eq_true]
  rw [bs_nil]
  refine ⟨by decide, ?_⟩
  rintro ⟨a, _⟩ _ ea
  simp only at ea ⊢
  subst ea
  have hv : v = [] ↔ v.length = 0 := ⟨fun h => by rw [h]; rfl, List.eq_nil_of_length_eq_zero⟩
  simp only [Bool.or_eq_false_iff, decide_eq_false_iff_not]
  refine ⟨fun h => ⟨h, by omega, ?_⟩, fun h => ?_⟩
  . have hM : mayA (k, v) = (mayD 12 v && (if k = 6 then capsD v && mayD 19 v else if k = 5 then mayD 19 v else true)) := by
      rw [mayA, decide_eq_true ⟨h.1.1, fun e => h.1.2 (by rw [hv.1 e]; decide), by simp only; omega⟩]; rfl
    rintro ⟨b, _⟩ _ eb
    simp only at eb ⊢
    rw [hM, ← eb]
    refine ⟨fun hb => by rw [hb]; rfl, fun hb => ?_⟩
    rw [hb]
    refine ⟨fun hk => ⟨by omega, ?_⟩, fun hk => ⟨fun hk6 => ⟨fun h => ⟨h, by decide, by omega⟩, fun h => ⟨h, by decide, by omega⟩, fun h => ⟨h, by decide, by omega⟩, fun h => ⟨h, by decide, by omega⟩, ?_⟩, fun hk6 => by rw [if_neg hk6, if_neg hk]; rfl⟩⟩
    . rintro ⟨d, _⟩ _ ed
      simp only at ed ⊢
      rw [if_neg (by omega), if_pos hk, ed]; rfl
    . rw [if_pos hk6, caps_prints v, Bool.true_and, Bool.eq_iff_iff, capsD]
      simp only [Bool.and_eq_true, decide_eq_true_eq]
      omega
  . have key : ¬ (labelK k ≠ [] ∧ v ≠ [] ∧ v.length ≤ 64) := by
      rintro ⟨h1, h2, h3⟩
      rcases h with (h | h) | h
      . exact h1 h
      . exact h2 (hv.2 (by omega))
      . omega
    rw [mayA]
    simp only
    rw [decide_eq_false key]; rfl
theorem h183 : c_r12_MayAttr.ok Tryz.prog GL 183 := con_ok (H := {}) (mkEnv_ok (gl := GL) (l := [(190, conSem c_r12_Label), (184, conSem c_r05_May)]) (q := []) (d := []) _ tyOk (by kernel_rfl) ⟨h190.call, h184.call, trivial⟩ trivial trivial) (by kernel_rfl) (by kernel_rfl) (Eq.mp e183 k183)
def t169 : Prop :=
  ∀ (x : q14), (q156 x) -> (List.length x.1 <= q84 /\ ∀ (a : Int × List Int), a ∈ x.1 -> List.length a.2 <= q155) -> ∃ (I : q7), ∃ (μ : q8), (x.1 = x.1 /\ I (q40, false, ()) ()) /\ ∀ (y : q9)
  (z : Unit), (q83 y) -> True -> I y z -> (decide (y.1 < (lnZ x.1)) = true -> (q40 <= y.1 /\ y.1 < (lnZ x.1)) /\ List.length (List.getD x.1 (q384 y) q393).2 <= q155 /\ (∀ (y_1 : q4), (q47
  y_1) -> y_1.1 = mayA (List.getD x.1 (q384 y) q393) -> ((!y_1.1) = true -> false = mayN x.1) /\ ((!y_1.1) = false -> x.1 = x.1 /\ I (wrZ (q85 y), y.2.1, ()) () /\ μ (wrZ (q85 y), y.2.1, ())
  () < μ y z)) /\ True) /\ (decide (y.1 < (lnZ x.1)) = false -> decide ((lnZ x.1) <= (16 : Int)) = mayN x.1)
theorem e169 : t169 = Con.vc c_r12_May GL (mkEnv ty [(183, conSem c_r12_MayAttr)] [] [] [0, 2, 3, 7, 15]) {} Tryz.f169.ntmps Tryz.f169.results.toList (bodyOf Tryz.f169) := by kernel_rfl
theorem k169 : t169 := by
  unfold t169
  delta q14 q156 q84 q155 q7 q8 q40 q9 q83 lnZ q384 q393 q4 q47 wrZ q85 q440 wiZ wbZ q500 q417
  rintro ⟨l, _⟩ hx hp
  obtain ⟨h1, h2⟩ := hp
  simp only at h1 h2
  try dsimp +instances only [dft_int, dft_sl, dft_str]
  simp only [true_and, and_true, eq_self_iff_true, implies_true, reduceCtorEq, false_implies, true_implies, decide_eq_true_eq, decide_eq_false_iff_not, beq_self_eq_true, Bool.not_eq_true', ne_eq, Decidable.not_not, List.nil_append, List.length_singleton, List.length_cons, List.length_nil, Nat.zero_add, Nat.add_zero, Nat.mul_one, and_self, beq_iff_eq, Bool.not_true, Bool.not_false, Bool.not_eq_false', Bool.cond_false_right, Bool.and_eq_true, imp_self, Bool.not_eq_true, Bool.cond_true_left, Bool.or_eq_true]
  simp only [adft_eq3]
  refine ⟨fun y _ => 0 ≤ y.1 ∧ y.1 ≤ l.length ∧ ∀ j, j < y.1.toNat → mayA (l.getD j adft) = true, fun y _ => ((l.length : Int) - y.1).toNat, ⟨Int.le_refl 0, by simp only; omega, fun j hj => by simp at hj⟩, ?_⟩
  rintro ⟨i, b, _⟩ _ _ ⟨i0, i1, i2⟩
  simp only at i0 i1 i2 ⊢
  refine ⟨fun hlt => ⟨⟨i0, hlt⟩, h2 _ (mem_getD adft l _ (by omega)), ?_⟩, fun hge => ?_⟩
  . rintro ⟨c, _⟩ _ ec
    simp only at ec ⊢
    rw [wrapK (i + 1) (by omega) (by omega)]
    refine ⟨fun hc => ?_, fun hc => ⟨⟨by omega, by omega, fun j hj => ?_⟩, by omega⟩⟩
    . rw [mayN, all_notA adft _ _ i.toNat (by omega) (ec.symm.trans hc), Bool.and_false]
    by_cases hji : j < i.toNat
    . exact i2 j hji
    . rw [show j = i.toNat by omega]; exact ec.symm.trans hc
  . rw [mayN, all_getA adft _ _ (fun j hj => i2 j (by omega)), Bool.and_true]
    exact decide_eq_decide.2 (by omega)
theorem h169 : c_r12_May.ok Tryz.prog GL 169 := con_ok (H := {}) (mkEnv_ok (gl := GL) (l := [(183, conSem c_r12_MayAttr)]) (q := []) (d := []) _ tyOk (by kernel_rfl) ⟨h183.call, trivial⟩ trivial trivial) (by kernel_rfl) (by kernel_rfl) (Eq.mp e169 k169)
end Go.Proofs.YtiofbnlbfmbodaaGreatDoor
end
