/- Texts of a verified walk, led together: NameA, NameW, Name2aA, Name2aW. -/
import Derived.Test.YtbdfeddakniaeaaDoorZW01
import Derived.Test.YtbdfeddakniaeaaDoorZV07
set_option linter.unusedVariables false
set_option linter.unusedSimpArgs false
section
namespace Go.Proofs.YtbdfeddakniaeaaDoor
open Go Go.Vc Go.Pl Go.Proofs
def c_name_Begins : Con := { args := [.dat (.sl AT), .dat (.sl AT)], res := [.dat .bool], pre := fun x => x.2.1.length ≤ 1000000000 ∧ (∀ a ∈ x.1, a.2.length ≤ 100000000) ∧ ∀ a ∈ x.2.1, a.2.length ≤ 100000000, post := fun x y => y.1 = beginsD x.1 x.2.1 }
def c_name_Same : Con := { args := [.dat (.sl AT), .dat (.sl AT)], res := [.dat .bool], pre := fun x => x.1.length ≤ 1000000000 ∧ x.2.1.length ≤ 1000000000 ∧ (∀ a ∈ x.1, a.2.length ≤ 100000000) ∧ ∀ a ∈ x.2.1, a.2.length ≤ 100000000, post := fun x y => y.1 = sameN x.1 x.2.1 }
def c_name_label : Con := { args := [.dat I64], res := [.dat .str], pre := fun _ => True, post := fun x y => y.1 = labelK x.1 }
def c_name_capitals : Con := { args := [.dat .str], res := [.dat .bool], pre := fun _ => True, post := fun x y => y.1 = capsD x.1 }
def c_name_may : Con := { args := [.dat AT], res := [.dat .bool], pre := fun _ => True, post := fun x y => y.1 = mayA x.1 }
def c_name_May : Con := { args := [.dat (.sl AT)], res := [.dat .bool], pre := fun _ => True, post := fun x y => y.1 = mayN x.1 }
end Go.Proofs.YtbdfeddakniaeaaDoor
end
section
namespace Go.Proofs.YtbdfeddakniaeaaDoor
open Go Go.Vc Go.Pl Go.Proofs
set_option linter.unusedVariables false
set_option linter.unusedSimpArgs false
theorem adft_eq : Kd.dft (Kd.pair (Kd.int IntKind.i64) Kd.str) = adft := rfl
abbrev q13 := (List (Int × List Int) × List (Int × List Int) × Unit)
abbrev q14 := (Int × List Int)
abbrev q15 := (List (Int × List Int) × Unit)
abbrev q228 := (Kd.dft (Kd.pair (Kd.int IntKind.i64) Kd.str))
abbrev q168 (p0 : q13) (p1 : q8) := (List.getD p0.2.1 (Int.toNat p1.1) q228)
abbrev q169 (p0 : q13) (p1 : q8) := (List.getD p0.1 (Int.toNat p1.1) q228)
abbrev q67 (p0 : q13) (p1 : q8) := ((q168 p0 p1).1 ≠ (q169 p0 p1).1)
abbrev q212 := (Kd.int IntKind.i64)
abbrev q174 := (Kd.pair q212 Kd.str)
abbrev q68 (p0 : q13) := (Kd.wf (Kd.sl q174) p0.1 /\ Kd.wf (Kd.sl q174) p0.2.1 /\ True)
abbrev q69 := (1000000000 : Nat)
abbrev q170 (p0 : q4) := ((65 : Int) <= List.getD p0.1 (0 : Nat) q229)
abbrev q171 (p0 : q4) := (List.getD p0.1 (0 : Nat) q229 <= (90 : Int))
abbrev q70 (p0 : q4) := ((bif bif bif decide ((lnZ p0.1) = q181) then decide (q170 p0) else false then decide (q171 p0) else false then decide ((65 : Int) <= List.getD p0.1 (1 : Nat) q172)
  else false) == true)
abbrev q71 (p0 : q4) := (bif bif bif decide ((lnZ p0.1) = q181) then decide (q170 p0) else false then decide (q171 p0) else false then decide ((65 : Int) <= List.getD p0.1 (1 : Nat) q172)
  else false)
abbrev q72 (p0 : q4) := ((bif bif decide ((lnZ p0.1) = q181) then decide (q170 p0) else false then decide (q171 p0) else false) == true)
abbrev q73 (p0 : q4) := (bif bif decide ((lnZ p0.1) = q181) then decide (q170 p0) else false then decide (q171 p0) else false)
abbrev q74 (p0 : q4) := ((bif decide ((lnZ p0.1) = q181) then decide (q170 p0) else false) == true)
abbrev q75 (p0 : q4) := (bif decide ((lnZ p0.1) = q181) then decide (q170 p0) else false)
abbrev q76 (p0 : q4) := ((lnZ p0.1) = q181)
abbrev q175 (p0 : q4) := (p0.1 = bs { data := #[] })
abbrev q77 (p0 : q4) (p1 : (Int × List Int) × Unit) := ((bif decide (q175 p0) then true else decide (p1.1.2 = bs { data := #[] })) = false -> ((bif decide (q175 p0) then true else decide
  (p1.1.2 = bs { data := #[] })) == false) = true /\ True)
abbrev q78 (p0 : q4) (p1 : (Int × List Int) × Unit) := ((bif bif decide (q175 p0) then true else decide (p1.1.2 = bs { data := #[] }) then true else decide ((64 : Int) < (lnZ p1.1.2))) ==
  false)
abbrev q79 (p0 : q4) (p1 : (Int × List Int) × Unit) := (bif bif decide (q175 p0) then true else decide (p1.1.2 = bs { data := #[] }) then true else decide ((64 : Int) < (lnZ p1.1.2)))
abbrev q80 (p0 : q4) := (decide (q175 p0) = false -> (decide (q175 p0) == false) = true /\ True)
abbrev q81 := (Int × List Int)
abbrev q82 (p0 : q15) := (Kd.wf (Kd.sl q174) p0.1 /\ True)
abbrev q176 := (Kd.dft (Kd.pair (Kd.int IntKind.i64) Kd.str))
abbrev q173 (p0 : q4) (p1 : q81 × Unit) := (bif decide (p0.1 = bs { data := #[] }) then true else decide (p1.1.2 = bs { data := #[] }))
def t50 : Prop :=
  ∀ (x : q13), (q68 x) -> (List.length x.2.1 <= q69 /\ (∀ (a : q14), a ∈ x.1 -> List.length a.2 <= q65) /\ ∀ (a : q14), a ∈ x.2.1 -> List.length a.2 <= q65) -> (decide ((lnZ x.1) < (lnZ
  x.2.1)) = true -> false = beginsD x.1 x.2.1) /\ (decide ((lnZ x.1) < (lnZ x.2.1)) = false -> ∃ (I : q6), ∃ (μ : q7), ((lnZ x.2.1) = (lnZ x.2.1) /\ x.2.1 = x.2.1 /\ Value.bool false =
  Value.bool false /\ Value.bool false = Value.bool false /\ x.1 = x.1 /\ x.2.1 = x.2.1 /\ I (q25, true, ()) ()) /\ ∀ (y : q8) (z : Unit), (q56 y) -> True -> I y z -> (decide (y.1 < (lnZ
  x.2.1)) = true -> (q25 <= y.1 /\ y.1 < (lnZ x.2.1)) /\ q49 <= q46 /\ (q25 <= y.1 /\ y.1 < (lnZ x.1)) /\ (decide (q67 x y) = true -> false = beginsD x.1 x.2.1) /\ (decide (q67 x y) = false
  -> (q25 <= y.1 /\ y.1 < (lnZ x.1)) /\ (List.length (q168 x y).2 <= q65 /\ List.length (q169 x y).2 <= q65) /\ (∀ (y_1 : q9), (q57 y_1) -> y_1.1 = decide (foldD (q168 x y).2 = foldD (q169 x
  y).2) -> ((!y_1.1) = true -> false = beginsD x.1 x.2.1) /\ ((!y_1.1) = false -> (lnZ x.2.1) = (lnZ x.2.1) /\ x.2.1 = x.2.1 /\ Value.bool false = Value.bool false /\ Value.bool false =
  Value.bool false /\ x.1 = x.1 /\ x.2.1 = x.2.1 /\ I (wrZ (y.1 + q47), y.2.1, ()) () /\ μ (wrZ (y.1 + q47), y.2.1, ()) () < μ y z)) /\ True)) /\ (decide (y.1 < (lnZ x.2.1)) = false -> y.2.1
  = beginsD x.1 x.2.1))
theorem e50 : t50 = Con.vc c_name_Begins GL (mkEnv ty [(107, conSem c_text_Same)] [] [] [0, 1, 4, 5, 6, 7, 12, 13, 14, 15, 16, 20]) {} Tryd.f50.ntmps Tryd.f50.results.toList (bodyOf Tryd.f50) := by kernel_rfl
theorem k50 : t50 := by
  unfold t50
  delta q13 q68 q69 q14 q65 lnZ q6 q7 q25 q8 q56 q49 q46 q67 q168 q169 q9 q57 wrZ q47 q174 wiZ wbZ q228 q212
  rintro ⟨l, m, _⟩ hx hp
  obtain ⟨h1, h2, h3⟩ := hp
  simp only at h1 h2 h3
  try dsimp +instances only [dft_int, dft_sl, dft_str]
  simp only [true_and, and_true, eq_self_iff_true, implies_true, reduceCtorEq, false_implies, true_implies, decide_eq_true_eq, decide_eq_false_iff_not, beq_self_eq_true, Bool.not_eq_true', ne_eq, Decidable.not_not, List.nil_append, List.length_singleton, List.length_cons, List.length_nil, Nat.zero_add, Nat.add_zero, Nat.mul_one, and_self, beq_iff_eq, Bool.not_true, Bool.not_false, Bool.not_eq_false', Bool.cond_false_right, Bool.and_eq_true, imp_self, Bool.not_eq_true, Bool.cond_true_left, Bool.or_eq_true]
  simp only [adft_eq]
  have hbad : ∀ i, i < m.length → sameA (l.getD i adft) (m.getD i adft) = false → false = beginsD l m := fun i hi hf => by
    cases hb : beginsD l m with
    | false => rfl
    | true => have := ((begins_iff l m).1 hb).2 i hi; rw [hf] at this; cases this
  refine ⟨fun h => ?_, fun h => ?_⟩
  . cases hb : beginsD l m with
    | false => rfl
    | true => have := ((begins_iff l m).1 hb).1; omega
  refine ⟨fun y _ => 0 ≤ y.1 ∧ y.1 ≤ m.length ∧ y.2.1 = true ∧ ∀ j, j < y.1.toNat → sameA (l.getD j adft) (m.getD j adft) = true, fun y _ => ((m.length : Int) - y.1).toNat, ⟨Int.le_refl 0, by simp only; omega, rfl, fun j hj => by simp at hj⟩, ?_⟩
  rintro ⟨i, b, _⟩ _ _ ⟨i0, i1, ib, i2⟩
  simp only at i0 i1 ib i2 ⊢
  have hw1 : i < m.length → IntKind.wrap .i64 (i + 1) = i + 1 := fun _ => wrapK _ (by omega) (by omega)
  refine ⟨fun hlt => ⟨⟨i0, hlt⟩, by decide, ⟨i0, by omega⟩, fun hne => hbad i.toNat (by omega) ?_, fun he => ⟨⟨i0, by omega⟩, ⟨h3 _ (mem_getD adft m _ (by omega)), h2 _ (mem_getD adft l _ (by omega))⟩, ?_⟩⟩, fun hge => ?_⟩
  . rw [sameA, decide_eq_false (fun e => hne e.symm)]; rfl
  . rintro ⟨c, _⟩ _ ec
    simp only at ec ⊢
    have hs : sameA (l.getD i.toNat adft) (m.getD i.toNat adft) = c := by
      rw [sameA, decide_eq_true he.symm, ec, Bool.true_and]
      exact decide_eq_decide.2 eq_comm
    rw [hw1 hlt]
    refine ⟨fun hc => hbad i.toNat (by omega) (hs.trans hc), fun hc => ⟨⟨by omega, by omega, ib, fun j hj => ?_⟩, by omega⟩⟩
    by_cases hji : j < i.toNat
    . exact i2 j hji
    . rw [show j = i.toNat by omega]; exact hs.trans hc
  . rw [ib]
    exact ((begins_iff l m).2 ⟨by omega, fun j hj => i2 j (by omega)⟩).symm
theorem h50 : c_name_Begins.ok Tryd.prog GL 50 := con_ok (H := {}) (mkEnv_ok (gl := GL) (l := [(107, conSem c_text_Same)]) (q := []) (d := []) _ tyOk (by kernel_rfl) ⟨h107.call, trivial⟩ trivial trivial) (by kernel_rfl) (by kernel_rfl) (Eq.mp e50 k50)
def t17 : Prop :=
  ∀ (x : q13), (q68 x) -> (List.length x.1 <= q69 /\ List.length x.2.1 <= q69 /\ (∀ (a : q14), a ∈ x.1 -> List.length a.2 <= q65) /\ ∀ (a : q14), a ∈ x.2.1 -> List.length a.2 <= q65) ->
  (decide ((lnZ x.1) = (lnZ x.2.1)) = true -> True) /\ (decide ((lnZ x.1) = (lnZ x.2.1)) = true -> True) /\ (decide ((lnZ x.1) = (lnZ x.2.1)) = true -> (decide ((lnZ x.1) = (lnZ x.2.1)) ==
  true) = true /\ (decide ((lnZ x.1) = (lnZ x.2.1)) == true) = true /\ (List.length x.2.1 <= q69 /\ (∀ (a : q14), a ∈ x.1 -> List.length a.2 <= q65) /\ ∀ (a : q14), a ∈ x.2.1 -> List.length
  a.2 <= q65) /\ (∀ (y : q9), (q57 y) -> y.1 = beginsD x.1 x.2.1 -> y.1 = sameN x.1 x.2.1) /\ True) /\ (decide ((lnZ x.1) = (lnZ x.2.1)) = !true -> false = sameN x.1 x.2.1)
theorem e17 : t17 = Con.vc c_name_Same GL (mkEnv ty [(50, conSem c_name_Begins)] [] [] [0, 1, 4]) {} Tryd.f17.ntmps Tryd.f17.results.toList (bodyOf Tryd.f17) := by kernel_rfl
theorem k17 : t17 := by
  unfold t17
  delta q13 q68 q69 q14 q65 lnZ q9 q57 q174 wbZ q212
  rintro ⟨l, m, _⟩ hx hp
  obtain ⟨h0, h1, h2, h3⟩ := hp
  simp only at h0 h1 h2 h3
  try dsimp +instances only [dft_int, dft_sl, dft_str]
  simp only [true_and, and_true, eq_self_iff_true, implies_true, reduceCtorEq, false_implies, true_implies, decide_eq_true_eq, decide_eq_false_iff_not, beq_self_eq_true, Bool.not_eq_true', ne_eq, Decidable.not_not, List.nil_append, List.length_singleton, List.length_cons, List.length_nil, Nat.zero_add, Nat.add_zero, Nat.mul_one, and_self, beq_iff_eq, Bool.not_true, Bool.not_false, Bool.not_eq_false', Bool.cond_false_right, Bool.and_eq_true, imp_self, Bool.not_eq_true, Bool.cond_true_left, Bool.or_eq_true]
  refine ⟨fun h => ⟨h, h, ⟨h1, h2, h3⟩, ?_⟩, fun h => ?_⟩
  . rintro ⟨c, _⟩ _ ec
    simp only at ec ⊢
    rw [sameN, decide_eq_true (by omega), ec]; rfl
  . rw [sameN, decide_eq_false (by omega)]; rfl
theorem h17 : c_name_Same.ok Tryd.prog GL 17 := con_ok (H := {}) (mkEnv_ok (gl := GL) (l := [(50, conSem c_name_Begins)]) (q := []) (d := []) _ tyOk (by kernel_rfl) ⟨h50.call, trivial⟩ trivial trivial) (by kernel_rfl) (by kernel_rfl) (Eq.mp e17 k17)
def t39 : Prop :=
  ∀ (x : q1), (q21 x) -> True -> (decide (x.1 = (3 : Int)) = true -> bs { data := #[(67 : UInt8), (78 : UInt8)] } = labelK x.1) /\ (decide (x.1 = (3 : Int)) = false -> (decide (x.1 = (5 :
  Int)) = true -> bs { data := #[(83 : UInt8), (78 : UInt8)] } = labelK x.1) /\ (decide (x.1 = (5 : Int)) = false -> (decide (x.1 = (6 : Int)) = true -> bs { data := #[(67 : UInt8)] } =
  labelK x.1) /\ (decide (x.1 = (6 : Int)) = false -> (decide (x.1 = (7 : Int)) = true -> bs { data := #[(76 : UInt8)] } = labelK x.1) /\ (decide (x.1 = (7 : Int)) = false -> (decide (x.1 =
  (8 : Int)) = true -> bs { data := #[(83 : UInt8), (84 : UInt8)] } = labelK x.1) /\ (decide (x.1 = (8 : Int)) = false -> (decide (x.1 = (10 : Int)) = true -> bs { data := #[(79 : UInt8)] } =
  labelK x.1) /\ (decide (x.1 = (10 : Int)) = false -> (decide (x.1 = (11 : Int)) = true -> bs { data := #[(79 : UInt8), (85 : UInt8)] } = labelK x.1) /\ (decide (x.1 = (11 : Int)) = false ->
  bs { data := #[] } = labelK x.1)))))))
theorem e39 : t39 = Con.vc c_name_label GL (mkEnv ty [] [] [] [0, 2, 3, 4, 6, 8, 10, 12, 14, 16]) {} Tryd.f39.ntmps Tryd.f39.results.toList (bodyOf Tryd.f39) := by kernel_rfl
theorem k39 : t39 := by
  unfold t39
  delta q1 q21 wiZ
  rintro ⟨l, _⟩ hx hp
  try dsimp +instances only [dft_int, dft_sl, dft_str]
  simp only [true_and, and_true, eq_self_iff_true, implies_true, reduceCtorEq, false_implies, true_implies, decide_eq_true_eq, decide_eq_false_iff_not, beq_self_eq_true, Bool.not_eq_true', ne_eq, Decidable.not_not, List.nil_append, List.length_singleton, List.length_cons, List.length_nil, Nat.zero_add, Nat.add_zero, Nat.mul_one, and_self, beq_iff_eq, Bool.not_true, Bool.not_false, Bool.not_eq_false', Bool.cond_false_right, Bool.and_eq_true, imp_self, Bool.not_eq_true, Bool.cond_true_left, Bool.or_eq_true]
  have e1 : bs { data := #[67, 78] } = [67, 78] := by decide
  have e2 : bs { data := #[83, 78] } = [83, 78] := by decide
  have e3 : bs { data := #[67] } = [67] := by decide
  have e4 : bs { data := #[76] } = [76] := by decide
  have e5 : bs { data := #[83, 84] } = [83, 84] := by decide
  have e6 : bs { data := #[79] } = [79] := by decide
  have e7 : bs { data := #[79, 85] } = [79, 85] := by decide
  rw [e1, e2, e3, e4, e5, e6, e7, bs_nil]
  unfold labelK
  refine ⟨fun h => by rw [if_pos h], fun h1 => ⟨fun h => by rw [if_neg h1, if_pos h], fun h2 => ⟨fun h => by rw [if_neg h1, if_neg h2, if_pos h], fun h3 => ⟨fun h => by rw [if_neg h1, if_neg h2, if_neg h3, if_pos h], fun h4 => ⟨fun h => by rw [if_neg h1, if_neg h2, if_neg h3, if_neg h4, if_pos h], fun h5 => ⟨fun h => by rw [if_neg h1, if_neg h2, if_neg h3, if_neg h4, if_neg h5, if_pos h], fun h6 => ⟨fun h => by rw [if_neg h1, if_neg h2, if_neg h3, if_neg h4, if_neg h5, if_neg h6, if_pos h], fun h7 => by rw [if_neg h1, if_neg h2, if_neg h3, if_neg h4, if_neg h5, if_neg h6, if_neg h7]⟩⟩⟩⟩⟩⟩⟩
theorem h39 : c_name_label.ok Tryd.prog GL 39 := con_ok (H := {}) (mkEnv_ok (gl := GL) (l := []) (q := []) (d := []) _ tyOk (by kernel_rfl) trivial trivial trivial) (by kernel_rfl) (by kernel_rfl) (Eq.mp e39 k39)
def t98 : Prop :=
  ∀ (x : q4), (q45 x) -> True -> (decide (q76 x) = true -> True) /\ (decide (q76 x) = true -> (decide (q76 x) == true) = true /\ (q42 x) /\ True) /\ (decide (q76 x) = true -> (decide (q76 x)
  == true) = true /\ True) /\ (decide (q76 x) = true -> (decide (q76 x) == true) = true) /\ ((q75 x) = true -> True) /\ ((q75 x) = true -> (q74 x) = true /\ (q42 x) /\ True) /\ ((q75 x) =
  true -> (q74 x) = true /\ True) /\ ((q75 x) = true -> (q74 x) = true) /\ ((q73 x) = true -> True) /\ ((q73 x) = true -> (q72 x) = true /\ (q43 x) /\ True) /\ ((q73 x) = true -> (q72 x) =
  true /\ True) /\ ((q73 x) = true -> (q72 x) = true) /\ ((q71 x) = true -> True) /\ ((q71 x) = true -> (q70 x) = true /\ (q43 x) /\ True) /\ ((q71 x) = true -> (q70 x) = true /\ True) /\
  ((q71 x) = true -> (q70 x) = true) /\ (bif bif bif bif decide (q76 x) then decide (q170 x) else false then decide (q171 x) else false then decide ((65 : Int) <= List.getD x.1 (1 : Nat)
  q172) else false then decide (List.getD x.1 q24 q25 <= (90 : Int)) else false) = capsD x.1
theorem e98 : t98 = Con.vc c_name_capitals GL (mkEnv ty [] [] [] [0, 2]) {} Tryd.f98.ntmps Tryd.f98.results.toList (bodyOf Tryd.f98) := by kernel_rfl
theorem k98 : t98 := by
  unfold t98
  delta q4 q45 q76 q42 q75 q74 q73 q72 q43 q71 q70 q170 q171 q172 q24 q25 wsZ lnZ q181 q229
  rintro ⟨l, _⟩ hx hp
  try dsimp +instances only [dft_int, dft_sl, dft_str]
  simp only [true_and, and_true, eq_self_iff_true, implies_true, reduceCtorEq, false_implies, true_implies, decide_eq_true_eq, decide_eq_false_iff_not, beq_self_eq_true, Bool.not_eq_true', ne_eq, Decidable.not_not, List.nil_append, List.length_singleton, List.length_cons, List.length_nil, Nat.zero_add, Nat.add_zero, Nat.mul_one, and_self, beq_iff_eq, Bool.not_true, Bool.not_false, Bool.not_eq_false', Bool.cond_false_right, Bool.and_eq_true, imp_self, Bool.not_eq_true, Bool.cond_true_left, Bool.or_eq_true]
  refine ⟨fun h => ⟨h, by decide, by omega⟩, fun h => ⟨h, by decide, by omega⟩, fun h => ⟨h, by decide, by omega⟩, fun h => ⟨h, by decide, by omega⟩, ?_⟩
  rw [Bool.eq_iff_iff, capsD]
  simp only [Bool.and_eq_true, decide_eq_true_eq]
  omega
theorem h98 : c_name_capitals.ok Tryd.prog GL 98 := con_ok (H := {}) (mkEnv_ok (gl := GL) (l := []) (q := []) (d := []) _ tyOk (by kernel_rfl) trivial trivial trivial) (by kernel_rfl) (by kernel_rfl) (Eq.mp e98 k98)
def t42 : Prop :=
  ∀ (x : q81 × Unit), (Kd.wf q174 x.1 /\ True) -> True -> List.length [SV.dat q212 x.1.1, SV.dat Kd.str x.1.2] <= q46 /\ True /\ (∀ (y : q4), (q45 y) -> y.1 = labelK x.1.1 -> (decide (q175 y)
  = false -> True) /\ (q80 y) /\ (q80 y) /\ (decide (q175 y) = false -> (decide (q175 y) == false) = true) /\ ((q173 y x) = false -> True) /\ (q77 y x) /\ (q77 y x) /\ (q77 y x) /\ ((q173 y
  x) = false -> ((q173 y x) == false) = true) /\ ((q79 y x) = false -> True) /\ ((q79 y x) = false -> (q78 y x) = true /\ True) /\ ((q79 y x) = false -> (q78 y x) = true /\ True /\ (∀ (y :
  q9), (q57 y) -> y.1 = mayD (12 : Int) x.1.2 -> ((!y.1) = true -> false = mayA x.1) /\ ((!y.1) = false -> (decide (x.1.1 = (6 : Int)) = true -> True /\ (∀ (y : q9), (q57 y) -> y.1 = capsD
  x.1.2 -> ((!y.1) = true -> false = mayA x.1) /\ ((!y.1) = false -> True /\ (∀ (y : q9), (q57 y) -> y.1 = mayD (19 : Int) x.1.2 -> y.1 = mayA x.1) /\ True)) /\ True) /\ (decide (x.1.1 = (6 :
  Int)) = false -> (decide (x.1.1 = (5 : Int)) = true -> True /\ (∀ (y : q9), (q57 y) -> y.1 = mayD (19 : Int) x.1.2 -> y.1 = mayA x.1) /\ True) /\ (decide (x.1.1 = (5 : Int)) = false -> true
  = mayA x.1)))) /\ True) /\ ((q79 y x) = !false -> false = mayA x.1)) /\ True
theorem e42 : t42 = Con.vc c_name_may GL (mkEnv ty [(39, conSem c_name_label), (90, conSem c_text_May), (98, conSem c_name_capitals)] [] [] [0, 1, 2, 23, 25, 26, 28, 33]) {} Tryd.f42.ntmps Tryd.f42.results.toList (bodyOf Tryd.f42) := by kernel_rfl
theorem k42 : t42 := by
  unfold t42
  delta q81 q174 q212 q46 q4 q45 q175 q80 q173 q77 q79 q78 q9 q57 wsZ lnZ wbZ
  rintro ⟨⟨k, v⟩, _⟩ hx hp
  try dsimp +instances only [dft_int, dft_sl, dft_str]
  simp only [true_and, and_true, eq_self_iff_true, implies_true, reduceCtorEq, false_implies, true_implies, decide_eq_true_eq, decide_eq_false_iff_not, beq_self_eq_true, Bool.not_eq_true', ne_eq, Decidable.not_not, List.nil_append, List.length_singleton, List.length_cons, List.length_nil, Nat.zero_add, Nat.add_zero, Nat.mul_one, and_self, beq_iff_eq, Bool.not_true, Bool.not_false, Bool.not_eq_false', Bool.cond_false_right, Bool.and_eq_true, imp_self, Bool.not_eq_true, Bool.cond_true_left, Bool.or_eq_true]
  rw [bs_nil]
  refine ⟨by decide, ?_⟩
  rintro ⟨a, _⟩ _ ea
  simp only at ea ⊢
  subst ea
  have hv : v = [] ↔ v.length = 0 := ⟨fun h => by rw [h]; rfl, List.eq_nil_of_length_eq_zero⟩
  simp only [Bool.or_eq_false_iff, decide_eq_false_iff_not]
  refine ⟨fun h => ⟨h, ?_⟩, fun h => ?_⟩
  . have hM : mayA (k, v) = (mayD 12 v && (if k = 6 then capsD v && mayD 19 v else if k = 5 then mayD 19 v else true)) := by
      rw [mayA, decide_eq_true ⟨h.1.1, h.1.2, by simp only; omega⟩]; rfl
    rintro ⟨b, _⟩ _ eb
    simp only at eb ⊢
    rw [hM, ← eb]
    refine ⟨fun hb => by rw [hb]; rfl, fun hb => ?_⟩
    rw [hb]
    refine ⟨fun hk => ?_, fun hk => ⟨fun hk5 => ?_, fun hk5 => by rw [if_neg hk, if_neg hk5]; rfl⟩⟩
    . rintro ⟨c, _⟩ _ ec
      simp only at ec ⊢
      rw [if_pos hk, ← ec]
      refine ⟨fun hc => by rw [hc]; rfl, fun hc => ?_⟩
      rintro ⟨d, _⟩ _ ed
      simp only at ed ⊢
      rw [hc, ed]; rfl
    . rintro ⟨d, _⟩ _ ed
      simp only at ed ⊢
      rw [if_neg hk, if_pos hk5, ed]; rfl
  . have key : ¬ (labelK k ≠ [] ∧ v ≠ [] ∧ v.length ≤ 64) := by
      rintro ⟨h1, h2, h3⟩
      rcases h with (h | h) | h
      . exact h1 h
      . exact h2 h
      . omega
    rw [mayA]
    simp only
    rw [decide_eq_false key]; rfl
theorem h42 : c_name_may.ok Tryd.prog GL 42 := con_ok (H := {}) (mkEnv_ok (gl := GL) (l := [(39, conSem c_name_label), (90, conSem c_text_May), (98, conSem c_name_capitals)]) (q := []) (d := []) _ tyOk (by kernel_rfl) ⟨h39.call, h90.call, h98.call, trivial⟩ trivial trivial) (by kernel_rfl) (by kernel_rfl) (Eq.mp e42 k42)
def t12 : Prop :=
  ∀ (x : q15), (q82 x) -> True -> (decide ((16 : Int) < (lnZ x.1)) = true -> false = mayN x.1) /\ (decide ((16 : Int) < (lnZ x.1)) = false -> ∃ (I : q6), ∃ (μ : q7), ((lnZ x.1) = (lnZ x.1) /\
  x.1 = x.1 /\ Value.bool false = Value.bool false /\ x.1 = x.1 /\ I (q25, false, ()) ()) /\ ∀ (y : q8) (z : Unit), (q56 y) -> True -> I y z -> (decide (y.1 < (lnZ x.1)) = true -> (q25 <= y.1
  /\ y.1 < (lnZ x.1)) /\ q49 <= q46 /\ True /\ (∀ (y_1 : q9), (q57 y_1) -> y_1.1 = mayA ((List.getD x.1 (Int.toNat y.1) q176).1, (List.getD x.1 (Int.toNat y.1) q176).2) -> ((!y_1.1) = true ->
  false = mayN x.1) /\ ((!y_1.1) = false -> (lnZ x.1) = (lnZ x.1) /\ x.1 = x.1 /\ Value.bool false = Value.bool false /\ x.1 = x.1 /\ I (wrZ (y.1 + q47), y.2.1, ()) () /\ μ (wrZ (y.1 + q47),
  y.2.1, ()) () < μ y z)) /\ True) /\ (decide (y.1 < (lnZ x.1)) = false -> true = mayN x.1))
theorem e12 : t12 = Con.vc c_name_May GL (mkEnv ty [(42, conSem c_name_may)] [] [] [0, 2, 4, 7, 8, 9, 10, 11, 16]) {} Tryd.f12.ntmps Tryd.f12.results.toList (bodyOf Tryd.f12) := by kernel_rfl
theorem k12 : t12 := by
  unfold t12
  delta q15 q82 lnZ q6 q7 q25 q8 q56 q49 q46 q9 q57 q176 wrZ q47 q174 wiZ wbZ q212
  rintro ⟨l, _⟩ hx hp
  try dsimp +instances only [dft_int, dft_sl, dft_str]
  simp only [true_and, and_true, eq_self_iff_true, implies_true, reduceCtorEq, false_implies, true_implies, decide_eq_true_eq, decide_eq_false_iff_not, beq_self_eq_true, Bool.not_eq_true', ne_eq, Decidable.not_not, List.nil_append, List.length_singleton, List.length_cons, List.length_nil, Nat.zero_add, Nat.add_zero, Nat.mul_one, and_self, beq_iff_eq, Bool.not_true, Bool.not_false, Bool.not_eq_false', Bool.cond_false_right, Bool.and_eq_true, imp_self, Bool.not_eq_true, Bool.cond_true_left, Bool.or_eq_true]
  simp only [adft_eq]
  refine ⟨fun h => by rw [mayN, decide_eq_false (by omega)]; rfl, fun h => ?_⟩
  have hM : mayN l = l.all mayA := by rw [mayN, decide_eq_true (by omega)]; rfl
  rw [hM]
  refine ⟨fun y _ => 0 ≤ y.1 ∧ y.1 ≤ l.length ∧ ∀ j, j < y.1.toNat → mayA (l.getD j adft) = true, fun y _ => ((l.length : Int) - y.1).toNat, ⟨Int.le_refl 0, by simp only; omega, fun j hj => by simp at hj⟩, ?_⟩
  rintro ⟨i, b, _⟩ _ _ ⟨i0, i1, i2⟩
  simp only at i0 i1 i2 ⊢
  have hw1 : IntKind.wrap .i64 (i + 1) = i + 1 := wrapK _ (by omega) (by omega)
  rw [hw1]
  refine ⟨fun hlt => ⟨⟨i0, hlt⟩, by decide, ?_⟩, fun hge => (all_getA adft _ _ (fun j hj => i2 j (by omega))).symm⟩
  rintro ⟨c, _⟩ _ ec
  simp only at ec ⊢
  refine ⟨fun hc => (all_notA adft _ _ i.toNat (by omega) (ec.symm.trans hc)).symm, fun hc => ⟨⟨by omega, by omega, fun j hj => ?_⟩, by omega⟩⟩
  by_cases hji : j < i.toNat
  . exact i2 j hji
  . rw [show j = i.toNat by omega]; exact ec.symm.trans hc
theorem h12 : c_name_May.ok Tryd.prog GL 12 := con_ok (H := {}) (mkEnv_ok (gl := GL) (l := [(42, conSem c_name_may)]) (q := []) (d := []) _ tyOk (by kernel_rfl) ⟨h42.call, trivial⟩ trivial trivial) (by kernel_rfl) (by kernel_rfl) (Eq.mp e12 k12)
end Go.Proofs.YtbdfeddakniaeaaDoor
end
section
namespace Go.Proofs.YtbdfeddakniaeaaDoor
open Go Go.Vc Go.Pl Go.Proofs
end Go.Proofs.YtbdfeddakniaeaaDoor
end
section
namespace Go.Proofs.YtbdfeddakniaeaaDoor
open Go Go.Vc Go.Pl Go.Proofs
set_option linter.unusedVariables false
set_option linter.unusedSimpArgs false
theorem dec_not {p : Prop} {d : Decidable (¬ p)} (h : @decide (¬ p) d = false) : p := Classical.not_not.1 (of_decide_eq_false h)
end Go.Proofs.YtbdfeddakniaeaaDoor
end
