/- Texts of a verified walk, led together: NameA, NameW, Name2aA, Name2aW. -/
import Derived.Test.YtiofbnlbfmbodaaGreatDoorZW01
import Derived.Test.YtiofbnlbfmbodaaGreatDoorZV08
set_option linter.unusedVariables false
set_option linter.unusedSimpArgs false
section
namespace Go.Proofs.YtiofbnlbfmbodaaGreatDoor
open Go Go.Vc Go.Pl Go.Proofs
def c_name_label : Con := { args := [.dat I64], res := [.dat .str], pre := fun _ => True, post := fun x y => y.1 = labelK x.1 }
def c_name_capitals : Con := { args := [.dat .str], res := [.dat .bool], pre := fun _ => True, post := fun x y => y.1 = capsD x.1 }
def c_name_may : Con := { args := [.dat AT], res := [.dat .bool], pre := fun _ => True, post := fun x y => y.1 = mayA x.1 }
end Go.Proofs.YtiofbnlbfmbodaaGreatDoor
end
section
namespace Go.Proofs.YtiofbnlbfmbodaaGreatDoor
open Go Go.Vc Go.Pl Go.Proofs
set_option linter.unusedVariables false
set_option linter.unusedSimpArgs false
abbrev q13 := ((Int × List Int) × Unit)
abbrev q125 := (8 : Int)
abbrev q493 := (0 : Nat)
abbrev q385 (p0 : q5) := (q481 <= List.getD p0.1 q493 q482)
abbrev q386 (p0 : q5) := (List.getD p0.1 q493 q482 <= (90 : Int))
abbrev q126 (p0 : q5) := ((bif bif bif decide ((lnZ p0.1) = q428) then decide (q385 p0) else false then decide (q386 p0) else false then decide (q481 <= List.getD p0.1 q387 q379) else
  false) == true)
abbrev q127 (p0 : q5) := (bif bif bif decide ((lnZ p0.1) = q428) then decide (q385 p0) else false then decide (q386 p0) else false then decide (q481 <= List.getD p0.1 q387 q379) else false)
abbrev q128 (p0 : q5) := ((bif bif decide ((lnZ p0.1) = q428) then decide (q385 p0) else false then decide (q386 p0) else false) == true)
abbrev q129 (p0 : q5) := (bif bif decide ((lnZ p0.1) = q428) then decide (q385 p0) else false then decide (q386 p0) else false)
abbrev q130 (p0 : q5) := ((bif decide ((lnZ p0.1) = q428) then decide (q385 p0) else false) == true)
abbrev q131 (p0 : q5) := (bif decide ((lnZ p0.1) = q428) then decide (q385 p0) else false)
abbrev q132 (p0 : q5) := ((lnZ p0.1) = q428)
abbrev q388 (p0 : q5) (p1 : q13) := (bif decide (p0.1 = bs { data := #[] }) then true else decide (p1.1.2 = bs { data := #[] }))
abbrev q133 (p0 : q5) (p1 : q13) := ((q388 p0 p1) = false -> ((q388 p0 p1) == false) = true /\ True)
abbrev q436 (p0 : q5) := (p0.1 = bs { data := #[] })
abbrev q134 (p0 : q5) (p1 : q13) := ((bif bif decide (q436 p0) then true else decide (p1.1.2 = bs { data := #[] }) then true else decide ((64 : Int) < (lnZ p1.1.2))) == false)
abbrev q135 (p0 : q5) (p1 : q13) := (bif bif decide (q436 p0) then true else decide (p1.1.2 = bs { data := #[] }) then true else decide ((64 : Int) < (lnZ p1.1.2)))
abbrev q136 (p0 : q5) := (decide (q436 p0) = false -> (decide (q436 p0) == false) = true /\ True)
abbrev q137 (p0 : q5) := (decide (q436 p0) = false -> (decide (q436 p0) == false) = true)
abbrev q494 := (Kd.int IntKind.i64)
abbrev q415 := (Kd.pair q494 Kd.str)
abbrev q138 (p0 : q13) := (Kd.wf q415 p0.1 /\ True)
abbrev q139 (p0 : q5) := (decide (q436 p0) = false -> True)
abbrev q140 := (Kd.int IntKind.i64)
def t202 : Prop :=
  ∀ (x : q1), (q36 x) -> True -> (decide (x.1 = (3 : Int)) = true -> bs { data := #[(67 : UInt8), (78 : UInt8)] } = labelK x.1) /\ (decide (x.1 = (3 : Int)) = false -> (decide (x.1 = (5 :
  Int)) = true -> bs { data := #[(83 : UInt8), (78 : UInt8)] } = labelK x.1) /\ (decide (x.1 = (5 : Int)) = false -> (decide (x.1 = (6 : Int)) = true -> bs { data := #[(67 : UInt8)] } =
  labelK x.1) /\ (decide (x.1 = (6 : Int)) = false -> (decide (x.1 = (7 : Int)) = true -> bs { data := #[(76 : UInt8)] } = labelK x.1) /\ (decide (x.1 = (7 : Int)) = false -> (decide (x.1 =
  q125) = true -> bs { data := #[(83 : UInt8), (84 : UInt8)] } = labelK x.1) /\ (decide (x.1 = q125) = false -> (decide (x.1 = (10 : Int)) = true -> bs { data := #[(79 : UInt8)] } = labelK
  x.1) /\ (decide (x.1 = (10 : Int)) = false -> (decide (x.1 = (11 : Int)) = true -> bs { data := #[(79 : UInt8), (85 : UInt8)] } = labelK x.1) /\ (decide (x.1 = (11 : Int)) = false -> bs {
  data := #[] } = labelK x.1)))))))
theorem e202 : t202 = Con.vc c_name_label GL (mkEnv ty [] [] [] [0, 2, 3, 4, 6, 8, 10, 12, 14, 16]) {} Tryz.f202.ntmps Tryz.f202.results.toList (bodyOf Tryz.f202) := by kernel_rfl
theorem k202 : t202 := by
  unfold t202
  delta q1 q36 q125 wiZ
  rintro ⟨l, _⟩ hx hp
  try dsimp +instances only [dft_int, dft_sl, dft_str]
  simp only [true_and, and_true, eq_self_iff_true, implies_true, reduceCtorEq, false_implies, true_implies, decide_eq_true_eq, decide_eq_false_iff_not, beq_self_eq_true, Bool.not_eq_true', ne_eq, Decidable.not_not, List.nil_append, List.length_singleton, List.length_cons, List.length_nil, Nat.zero_add, Nat.add_zero, Nat.mul_one, and_self, beq_iff_eq, Bool.not_true, Bool.not_false, Bool.not_eq_false', Bool.cond_false_right, Bool.and_eq_true, imp_self, Bool.not_eq_true, Bool.cond_true_left, Bool.or_eq_true]
  have e1 : bs { data := #[67, 78] } = [67, 78] := by decide
  have e2 : bs { data := #[83, 78] } = [83, 78] := by decide
  have e3 : bs { data := #[67] } = [67] := by decide
  have e4 : bs { data := #[76] } = [76] := by decide
  have e5 : bs { data := #[83, 84] } = [83, 84] := by decide
  have e6 : bs { data := #[79] } = [79] := by decide
  have e7 : bs { data := #[79, 85] } = [79, 85] := by decide
  rw [e1, e2, e3, e4, e5, e6, e7, bs_nil]
  unfold labelK
  refine ⟨fun h => by rw [if_pos h], fun h1 => ⟨fun h => by rw [if_neg h1, if_pos h], fun h2 => ⟨fun h => by rw [if_neg h1, if_neg h2, if_pos h], fun h3 => ⟨fun h => by rw [if_neg h1, if_neg h2, if_neg h3, if_pos h], fun h4 => ⟨fun h => by rw [if_neg h1, if_neg h2, if_neg h3, if_neg h4, if_pos h], fun h5 => ⟨fun h => by rw [if_neg h1, if_neg h2, if_neg h3, if_neg h4, if_neg h5, if_pos h], fun h6 => ⟨fun h => by rw [if_neg h1, if_neg h2, if_neg h3, if_neg h4, if_neg h5, if_neg h6, if_pos h], fun h7 => by rw [if_neg h1, if_neg h2, if_neg h3, if_neg h4, if_neg h5, if_neg h6, if_neg h7]⟩⟩⟩⟩⟩⟩⟩
theorem h202 : c_name_label.ok Tryz.prog GL 202 := con_ok (H := {}) (mkEnv_ok (gl := GL) (l := []) (q := []) (d := []) _ tyOk (by kernel_rfl) trivial trivial trivial) (by kernel_rfl) (by kernel_rfl) (Eq.mp e202 k202)
def t203 : Prop :=
  ∀ (x : q5), (q68 x) -> True -> (decide (q132 x) = true -> True) /\ (decide (q132 x) = true -> (decide (q132 x) == true) = true /\ (q64 x) /\ True) /\ (decide (q132 x) = true -> (decide
  (q132 x) == true) = true /\ True) /\ (decide (q132 x) = true -> (decide (q132 x) == true) = true) /\ ((q131 x) = true -> True) /\ ((q131 x) = true -> (q130 x) = true /\ (q64 x) /\ True) /\
  ((q131 x) = true -> (q130 x) = true /\ True) /\ ((q131 x) = true -> (q130 x) = true) /\ ((q129 x) = true -> True) /\ ((q129 x) = true -> (q128 x) = true /\ (q65 x) /\ True) /\ ((q129 x) =
  true -> (q128 x) = true /\ True) /\ ((q129 x) = true -> (q128 x) = true) /\ ((q127 x) = true -> True) /\ ((q127 x) = true -> (q126 x) = true /\ (q65 x) /\ True) /\ ((q127 x) = true -> (q126
  x) = true /\ True) /\ ((q127 x) = true -> (q126 x) = true) /\ (bif bif bif bif decide (q132 x) then decide (q385 x) else false then decide (q386 x) else false then decide (q481 <= List.getD
  x.1 q387 q379) else false then decide (List.getD x.1 q42 q40 <= (90 : Int)) else false) = capsD x.1
theorem e203 : t203 = Con.vc c_name_capitals GL (mkEnv ty [] [] [] [0, 2]) {} Tryz.f203.ntmps Tryz.f203.results.toList (bodyOf Tryz.f203) := by kernel_rfl
theorem k203 : t203 := by
  unfold t203
  delta q5 q68 q132 q64 q131 q130 q129 q128 q65 q127 q126 q385 q386 q481 q387 q379 q42 q40 wsZ lnZ q428 q417 q493 q482
  rintro ⟨l, _⟩ hx hp
  try dsimp +instances only [dft_int, dft_sl, dft_str]
  simp only [true_and, and_true, eq_self_iff_true, implies_true, reduceCtorEq, false_implies, true_implies, decide_eq_true_eq, decide_eq_false_iff_not, beq_self_eq_true, Bool.not_eq_true', ne_eq, Decidable.not_not, List.nil_append, List.length_singleton, List.length_cons, List.length_nil, Nat.zero_add, Nat.add_zero, Nat.mul_one, and_self, beq_iff_eq, Bool.not_true, Bool.not_false, Bool.not_eq_false', Bool.cond_false_right, Bool.and_eq_true, imp_self, Bool.not_eq_true, Bool.cond_true_left, Bool.or_eq_true]
  refine ⟨fun h => ⟨h, by decide, by omega⟩, fun h => ⟨h, by decide, by omega⟩, fun h => ⟨h, by decide, by omega⟩, fun h => ⟨h, by decide, by omega⟩, ?_⟩
  rw [Bool.eq_iff_iff, capsD]
  simp only [Bool.and_eq_true, decide_eq_true_eq]
  omega
theorem h203 : c_name_capitals.ok Tryz.prog GL 203 := con_ok (H := {}) (mkEnv_ok (gl := GL) (l := []) (q := []) (d := []) _ tyOk (by kernel_rfl) trivial trivial trivial) (by kernel_rfl) (by kernel_rfl) (Eq.mp e203 k203)
def t195 : Prop :=
  ∀ (x : q13), (q138 x) -> True -> List.length [SV.dat q140 x.1.1, SV.dat Kd.str x.1.2] <= q69 /\ True /\ (∀ (y : q5), (q68 y) -> y.1 = labelK x.1.1 -> (q139 y) /\ (q136 y) /\ (q136 y) /\
  (q137 y) /\ ((q388 y x) = false -> True) /\ (q133 y x) /\ (q133 y x) /\ (q133 y x) /\ ((q388 y x) = false -> ((q388 y x) == false) = true) /\ ((q135 y x) = false -> True) /\ ((q135 y x) =
  false -> (q134 y x) = true /\ True) /\ ((q135 y x) = false -> (q134 y x) = true /\ True /\ (∀ (y : q4), (q47 y) -> y.1 = mayD q70 x.1.2 -> ((!y.1) = true -> false = mayA x.1) /\ ((!y.1) =
  false -> (decide (x.1.1 = (6 : Int)) = true -> True /\ (∀ (y : q4), (q47 y) -> y.1 = capsD x.1.2 -> ((!y.1) = true -> false = mayA x.1) /\ ((!y.1) = false -> True /\ (∀ (y : q4), (q47 y) ->
  y.1 = mayD q118 x.1.2 -> y.1 = mayA x.1) /\ True)) /\ True) /\ (decide (x.1.1 = (6 : Int)) = false -> (decide (x.1.1 = (5 : Int)) = true -> True /\ (∀ (y : q4), (q47 y) -> y.1 = mayD q118
  x.1.2 -> y.1 = mayA x.1) /\ True) /\ (decide (x.1.1 = (5 : Int)) = false -> true = mayA x.1)))) /\ True) /\ ((q135 y x) = !false -> false = mayA x.1)) /\ True
theorem e195 : t195 = Con.vc c_name_may GL (mkEnv ty [(202, conSem c_name_label), (201, conSem c_text_May), (203, conSem c_name_capitals)] [] [] [0, 1, 2, 23, 25, 26, 28, 33]) {} Tryz.f195.ntmps Tryz.f195.results.toList (bodyOf Tryz.f195) := by kernel_rfl
theorem k195 : t195 := by
  unfold t195
  delta q13 q138 q140 q69 q5 q68 q139 q136 q137 q388 q133 q135 q134 q4 q47 q70 q118 q415 wsZ q436 lnZ wbZ q494
  rintro ⟨⟨k, v⟩, _⟩ hx hp
  try dsimp +instances only [dft_int, dft_sl, dft_str]
  simp only [true_and, and_true, eq_self_iff_true, implies_true, reduceCtorEq, false_implies, true_implies, decide_eq_true_eq, decide_eq_false_iff_not, beq_self_eq_true, Bool.not_eq_true', ne_eq, Decidable.not_not, List.nil_append, List.length_singleton, List.length_cons, List.length_nil, Nat.zero_add, Nat.add_zero, Nat.mul_one, and_self, beq_iff_eq, Bool.not_true, Bool.not_false, Bool.not_eq_false', Bool.cond_false_right, Bool.and_eq_true, imp_self, Bool.not_eq_true, Bool.cond_true_left, Bool.or_eq_true]
  rw [bs_nil]
  refine ⟨by decide, ?_⟩
  rintro ⟨a, _⟩ _ ea
  simp only at ea ⊢
  subst ea
  have hv : v = [] ↔ v.length = 0 := ⟨fun h => by rw [h]; rfl, List.eq_nil_of_length_eq_zero⟩
  simp only [Bool.or_eq_false_iff, decide_eq_false_iff_not]
  refine ⟨fun h => ⟨h, ?_⟩, fun h => ?_⟩
  . have hM : mayA (k, v) = (mayD 12 v && (if k = 6 then capsD v && mayD 19 v else if k = 5 then mayD 19 v else true)) := by
      rw [mayA, decide_eq_true ⟨h.1.1, h.1.2, by simp only; omega⟩]; rfl
    rintro ⟨b, _⟩ _ eb
    simp only at eb ⊢
    rw [hM, ← eb]
    refine ⟨fun hb => by rw [hb]; rfl, fun hb => ?_⟩
    rw [hb]
    refine ⟨fun hk => ?_, fun hk => ⟨fun hk5 => ?_, fun hk5 => by rw [if_neg hk, if_neg hk5]; rfl⟩⟩
    . rintro ⟨c, _⟩ _ ec
      simp only at ec ⊢
      rw [if_pos hk, ← ec]
      refine ⟨fun hc => by rw [hc]; rfl, fun hc => ?_⟩
      rintro ⟨d, _⟩ _ ed
      simp only at ed ⊢
      rw [hc, ed]; rfl
    . rintro ⟨d, _⟩ _ ed
      simp only at ed ⊢
      rw [if_neg hk, if_pos hk5, ed]; rfl
  . have key : ¬ (labelK k ≠ [] ∧ v ≠ [] ∧ v.length ≤ 64) := by
      rintro ⟨h1, h2, h3⟩
      rcases h with (h | h) | h
      . exact h1 h
      . exact h2 h
      . omega
    rw [mayA]
    simp only
    rw [decide_eq_false key]; rfl
theorem h195 : c_name_may.ok Tryz.prog GL 195 := con_ok (H := {}) (mkEnv_ok (gl := GL) (l := [(202, conSem c_name_label), (201, conSem c_text_May), (203, conSem c_name_capitals)]) (q := []) (d := []) _ tyOk (by kernel_rfl) ⟨h202.call, h201.call, h203.call, trivial⟩ trivial trivial) (by kernel_rfl) (by kernel_rfl) (Eq.mp e195 k195)
end Go.Proofs.YtiofbnlbfmbodaaGreatDoor
end
section
namespace Go.Proofs.YtiofbnlbfmbodaaGreatDoor
open Go Go.Vc Go.Pl Go.Proofs
end Go.Proofs.YtiofbnlbfmbodaaGreatDoor
end
section
namespace Go.Proofs.YtiofbnlbfmbodaaGreatDoor
open Go Go.Vc Go.Pl Go.Proofs
set_option linter.unusedVariables false
set_option linter.unusedSimpArgs false
theorem dec_not {p : Prop} {d : Decidable (¬ p)} (h : @decide (¬ p) d = false) : p := Classical.not_not.1 (of_decide_eq_false h)
end Go.Proofs.YtiofbnlbfmbodaaGreatDoor
end
