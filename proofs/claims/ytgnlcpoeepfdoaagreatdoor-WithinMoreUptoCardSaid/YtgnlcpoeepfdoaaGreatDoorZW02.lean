/- Texts of a verified walk, led together: NameA, NameW, Name2aA, Name2aW, Name2A, Name2W. -/
import Derived.Test.YtgnlcpoeepfdoaaGreatDoorZW01
import Derived.Test.YtgnlcpoeepfdoaaGreatDoorZV07
set_option linter.unusedVariables false
set_option linter.unusedSimpArgs false
section
namespace Go.Proofs.YtgnlcpoeepfdoaaGreatDoor
open Go Go.Vc Go.Pl Go.Proofs
def c_name_Begins : Con := { args := [.dat (.sl AT), .dat (.sl AT)], res := [.dat .bool], pre := fun x => x.2.1.length ≤ 1000000000 ∧ (∀ a ∈ x.1, a.2.length ≤ 100000000) ∧ ∀ a ∈ x.2.1, a.2.length ≤ 100000000, post := fun x y => y.1 = beginsD x.1 x.2.1 }
def c_name_label : Con := { args := [.dat I64], res := [.dat .str], pre := fun _ => True, post := fun x y => y.1 = labelK x.1 }
def c_name_capitals : Con := { args := [.dat .str], res := [.dat .bool], pre := fun _ => True, post := fun x y => y.1 = capsD x.1 }
def c_name_may : Con := { args := [.dat AT], res := [.dat .bool], pre := fun _ => True, post := fun x y => y.1 = mayA x.1 }
end Go.Proofs.YtgnlcpoeepfdoaaGreatDoor
end
section
namespace Go.Proofs.YtgnlcpoeepfdoaaGreatDoor
open Go Go.Vc Go.Pl Go.Proofs
set_option linter.unusedVariables false
set_option linter.unusedSimpArgs false
theorem adft_eq : Kd.dft (Kd.pair (Kd.int IntKind.i64) Kd.str) = adft := rfl
abbrev q303 := (Kd.pair (Kd.int IntKind.i64) Kd.str)
abbrev q241 := (Kd.dft q303)
abbrev q90 (p0 : List (Int × List Int) × List (Int × List Int) × Unit) (p1 : q10) := ((List.getD p0.2.1 (Int.toNat p1.1) q241).1 ≠ (List.getD p0.1 (Int.toNat p1.1) q241).1)
abbrev q91 := (Kd.sl q303)
abbrev q92 := (1000000000 : Nat)
abbrev q93 := (Int × List Int)
abbrev q242 (p0 : q6) := ((65 : Int) <= List.getD p0.1 (0 : Nat) q308)
abbrev q243 (p0 : q6) := (List.getD p0.1 (0 : Nat) q308 <= (90 : Int))
abbrev q94 (p0 : q6) := ((bif bif bif decide ((lnZ p0.1) = q248) then decide (q242 p0) else false then decide (q243 p0) else false then decide (q237 <= List.getD p0.1 (1 : Nat) q236) else
  false) == true)
abbrev q95 (p0 : q6) := (bif bif bif decide ((lnZ p0.1) = q248) then decide (q242 p0) else false then decide (q243 p0) else false then decide (q237 <= List.getD p0.1 (1 : Nat) q236) else
  false)
abbrev q96 (p0 : q6) := ((bif bif decide ((lnZ p0.1) = q248) then decide (q242 p0) else false then decide (q243 p0) else false) == true)
abbrev q97 (p0 : q6) := (bif bif decide ((lnZ p0.1) = q248) then decide (q242 p0) else false then decide (q243 p0) else false)
abbrev q98 (p0 : q6) := ((bif decide ((lnZ p0.1) = q248) then decide (q242 p0) else false) == true)
abbrev q99 (p0 : q6) := (bif decide ((lnZ p0.1) = q248) then decide (q242 p0) else false)
abbrev q100 (p0 : q6) := ((lnZ p0.1) = q248)
abbrev q245 (p0 : q6) := (p0.1 = bs { data := #[] })
abbrev q101 (p0 : q6) (p1 : (Int × List Int) × Unit) := ((bif decide (q245 p0) then true else decide (p1.1.2 = bs { data := #[] })) = false -> ((bif decide (q245 p0) then true else decide
  (p1.1.2 = bs { data := #[] })) == false) = true /\ True)
abbrev q102 (p0 : q6) (p1 : (Int × List Int) × Unit) := ((bif bif decide (q245 p0) then true else decide (p1.1.2 = bs { data := #[] }) then true else decide ((64 : Int) < (lnZ p1.1.2))) ==
  false)
abbrev q103 (p0 : q6) (p1 : (Int × List Int) × Unit) := (bif bif decide (q245 p0) then true else decide (p1.1.2 = bs { data := #[] }) then true else decide ((64 : Int) < (lnZ p1.1.2)))
abbrev q104 (p0 : q6) := (decide (q245 p0) = false -> (decide (q245 p0) == false) = true /\ True)
abbrev q105 (p0 : q6) := (decide (q245 p0) = false -> (decide (q245 p0) == false) = true)
abbrev q304 := (Kd.int IntKind.i64)
abbrev q106 := (Kd.pair q304 Kd.str)
abbrev q107 := (Kd.int IntKind.i64)
abbrev q329 := (8 : Int)
abbrev q244 (p0 : q6) (p1 : q93 × Unit) := (bif decide (p0.1 = bs { data := #[] }) then true else decide (p1.1.2 = bs { data := #[] }))
def t97 : Prop :=
  ∀ (x : List q93 × List q93 × Unit), (Kd.wf q91 x.1 /\ Kd.wf q91 x.2.1 /\ True) -> (List.length x.2.1 <= q92 /\ (∀ (a : Int × List Int), a ∈ x.1 -> List.length a.2 <= q87) /\ ∀ (a : Int ×
  List Int), a ∈ x.2.1 -> List.length a.2 <= q87) -> (decide ((lnZ x.1) < (lnZ x.2.1)) = true -> false = beginsD x.1 x.2.1) /\ (decide ((lnZ x.1) < (lnZ x.2.1)) = false -> ∃ (I : q8), ∃ (μ :
  q9), ((lnZ x.2.1) = (lnZ x.2.1) /\ x.2.1 = x.2.1 /\ Value.bool false = Value.bool false /\ Value.bool false = Value.bool false /\ x.1 = x.1 /\ x.2.1 = x.2.1 /\ I (q33, true, ()) ()) /\ ∀ (y
  : q10) (z : Unit), (q79 y) -> True -> I y z -> (decide (y.1 < (lnZ x.2.1)) = true -> (q33 <= y.1 /\ y.1 < (lnZ x.2.1)) /\ q68 <= q65 /\ (q33 <= y.1 /\ y.1 < (lnZ x.1)) /\ (decide (q90 x y)
  = true -> false = beginsD x.1 x.2.1) /\ (decide (q90 x y) = false -> (q33 <= y.1 /\ y.1 < (lnZ x.1)) /\ (List.length (List.getD x.2.1 (Int.toNat y.1) q241).2 <= q87 /\ List.length
  (List.getD x.1 (Int.toNat y.1) q241).2 <= q87) /\ (∀ (y_1 : q4), (q44 y_1) -> y_1.1 = decide (foldD (List.getD x.2.1 (Int.toNat y.1) q241).2 = foldD (List.getD x.1 (Int.toNat y.1) q241).2)
  -> ((!y_1.1) = true -> false = beginsD x.1 x.2.1) /\ ((!y_1.1) = false -> (lnZ x.2.1) = (lnZ x.2.1) /\ x.2.1 = x.2.1 /\ Value.bool false = Value.bool false /\ Value.bool false = Value.bool
  false /\ x.1 = x.1 /\ x.2.1 = x.2.1 /\ I (wrZ (y.1 + q240), y.2.1, ()) () /\ μ (wrZ (y.1 + q240), y.2.1, ()) () < μ y z)) /\ True)) /\ (decide (y.1 < (lnZ x.2.1)) = false -> y.2.1 = beginsD
  x.1 x.2.1))
theorem e97 : t97 = Con.vc c_name_Begins GL (mkEnv ty [(115, conSem c_text_Same)] [] [] [0, 1, 4, 5, 6, 7, 12, 13, 14, 15, 16, 20]) {} Tryz.f97.ntmps Tryz.f97.results.toList (bodyOf Tryz.f97) := by kernel_rfl
theorem k97 : t97 := by
  unfold t97
  delta q93 q91 q92 q87 lnZ q8 q9 q33 q10 q79 q68 q65 q90 q241 q4 q44 wrZ q240 q303 wiZ wbZ
  rintro ⟨l, m, _⟩ hx hp
  obtain ⟨h1, h2, h3⟩ := hp
  simp only at h1 h2 h3
  try dsimp +instances only [dft_int, dft_sl, dft_str]
  simp only [true_and, and_true, eq_self_iff_true, implies_true, reduceCtorEq, false_implies, true_implies, decide_eq_true_eq, decide_eq_false_iff_not, beq_self_eq_true, Bool.not_eq_true', ne_eq, Decidable.not_not, List.nil_append, List.length_singleton, List.length_cons, List.length_nil, Nat.zero_add, Nat.add_zero, Nat.mul_one, and_self, beq_iff_eq, Bool.not_true, Bool.not_false, Bool.not_eq_false', Bool.cond_false_right, Bool.and_eq_true, imp_self, Bool.not_eq_true, Bool.cond_true_left, Bool.or_eq_true]
  simp only [adft_eq]
  have hbad : ∀ i, i < m.length → sameA (l.getD i adft) (m.getD i adft) = false → false = beginsD l m := fun i hi hf => by
    cases hb : beginsD l m with
    | false => rfl
    | true => have := ((begins_iff l m).1 hb).2 i hi; rw [hf] at this; cases this
  refine ⟨fun h => ?_, fun h => ?_⟩
  . cases hb : beginsD l m with
    | false => rfl
    | true => have := ((begins_iff l m).1 hb).1; omega
  refine ⟨fun y _ => 0 ≤ y.1 ∧ y.1 ≤ m.length ∧ y.2.1 = true ∧ ∀ j, j < y.1.toNat → sameA (l.getD j adft) (m.getD j adft) = true, fun y _ => ((m.length : Int) - y.1).toNat, ⟨Int.le_refl 0, by simp only; omega, rfl, fun j hj => by simp at hj⟩, ?_⟩
  rintro ⟨i, b, _⟩ _ _ ⟨i0, i1, ib, i2⟩
  simp only at i0 i1 ib i2 ⊢
  have hw1 : i < m.length → IntKind.wrap .i64 (i + 1) = i + 1 := fun _ => wrapK _ (by omega) (by omega)
  refine ⟨fun hlt => ⟨⟨i0, hlt⟩, by decide, ⟨i0, by omega⟩, fun hne => hbad i.toNat (by omega) ?_, fun he => ⟨⟨i0, by omega⟩, ⟨h3 _ (mem_getD adft m _ (by omega)), h2 _ (mem_getD adft l _ (by omega))⟩, ?_⟩⟩, fun hge => ?_⟩
  . rw [sameA, decide_eq_false (fun e => hne e.symm)]; rfl
  . rintro ⟨c, _⟩ _ ec
    simp only at ec ⊢
    have hs : sameA (l.getD i.toNat adft) (m.getD i.toNat adft) = c := by
      rw [sameA, decide_eq_true he.symm, ec, Bool.true_and]
      exact decide_eq_decide.2 eq_comm
    rw [hw1 hlt]
    refine ⟨fun hc => hbad i.toNat (by omega) (hs.trans hc), fun hc => ⟨⟨by omega, by omega, ib, fun j hj => ?_⟩, by omega⟩⟩
    by_cases hji : j < i.toNat
    . exact i2 j hji
    . rw [show j = i.toNat by omega]; exact hs.trans hc
  . rw [ib]
    exact ((begins_iff l m).2 ⟨by omega, fun j hj => i2 j (by omega)⟩).symm
theorem h97 : c_name_Begins.ok Tryz.prog GL 97 := con_ok (H := {}) (mkEnv_ok (gl := GL) (l := [(115, conSem c_text_Same)]) (q := []) (d := []) _ tyOk (by kernel_rfl) ⟨h115.call, trivial⟩ trivial trivial) (by kernel_rfl) (by kernel_rfl) (Eq.mp e97 k97)
def t149 : Prop :=
  ∀ (x : q1), (q30 x) -> True -> (decide (x.1 = (3 : Int)) = true -> bs { data := #[(67 : UInt8), (78 : UInt8)] } = labelK x.1) /\ (decide (x.1 = (3 : Int)) = false -> (decide (x.1 = (5 :
  Int)) = true -> bs { data := #[(83 : UInt8), (78 : UInt8)] } = labelK x.1) /\ (decide (x.1 = (5 : Int)) = false -> (decide (x.1 = (6 : Int)) = true -> bs { data := #[(67 : UInt8)] } =
  labelK x.1) /\ (decide (x.1 = (6 : Int)) = false -> (decide (x.1 = (7 : Int)) = true -> bs { data := #[(76 : UInt8)] } = labelK x.1) /\ (decide (x.1 = (7 : Int)) = false -> (decide (x.1 =
  q329) = true -> bs { data := #[(83 : UInt8), (84 : UInt8)] } = labelK x.1) /\ (decide (x.1 = q329) = false -> (decide (x.1 = (10 : Int)) = true -> bs { data := #[(79 : UInt8)] } = labelK
  x.1) /\ (decide (x.1 = (10 : Int)) = false -> (decide (x.1 = (11 : Int)) = true -> bs { data := #[(79 : UInt8), (85 : UInt8)] } = labelK x.1) /\ (decide (x.1 = (11 : Int)) = false -> bs {
  data := #[] } = labelK x.1)))))))
theorem e149 : t149 = Con.vc c_name_label GL (mkEnv ty [] [] [] [0, 2, 3, 4, 6, 8, 10, 12, 14, 16]) {} Tryz.f149.ntmps Tryz.f149.results.toList (bodyOf Tryz.f149) := by kernel_rfl
theorem k149 : t149 := by
  unfold t149
  delta q1 q30 q329 wiZ
  rintro ⟨l, _⟩ hx hp
  try dsimp +instances only [dft_int, dft_sl, dft_str]
  simp only [true_and, and_true, eq_self_iff_true, implies_true, reduceCtorEq, false_implies, true_implies, decide_eq_true_eq, decide_eq_false_iff_not, beq_self_eq_true, Bool.not_eq_true', ne_eq, Decidable.not_not, List.nil_append, List.length_singleton, List.length_cons, List.length_nil, Nat.zero_add, Nat.add_zero, Nat.mul_one, and_self, beq_iff_eq, Bool.not_true, Bool.not_false, Bool.not_eq_false', Bool.cond_false_right, Bool.and_eq_true, imp_self, Bool.not_eq_true, Bool.cond_true_left, Bool.or_eq_true]
  have e1 : bs { data := #[67, 78] } = [67, 78] := by decide
  have e2 : bs { data := #[83, 78] } = [83, 78] := by decide
  have e3 : bs { data := #[67] } = [67] := by decide
  have e4 : bs { data := #[76] } = [76] := by decide
  have e5 : bs { data := #[83, 84] } = [83, 84] := by decide
  have e6 : bs { data := #[79] } = [79] := by decide
  have e7 : bs { data := #[79, 85] } = [79, 85] := by decide
  rw [e1, e2, e3, e4, e5, e6, e7, bs_nil]
  unfold labelK
  refine ⟨fun h => by rw [if_pos h], fun h1 => ⟨fun h => by rw [if_neg h1, if_pos h], fun h2 => ⟨fun h => by rw [if_neg h1, if_neg h2, if_pos h], fun h3 => ⟨fun h => by rw [if_neg h1, if_neg h2, if_neg h3, if_pos h], fun h4 => ⟨fun h => by rw [if_neg h1, if_neg h2, if_neg h3, if_neg h4, if_pos h], fun h5 => ⟨fun h => by rw [if_neg h1, if_neg h2, if_neg h3, if_neg h4, if_neg h5, if_pos h], fun h6 => ⟨fun h => by rw [if_neg h1, if_neg h2, if_neg h3, if_neg h4, if_neg h5, if_neg h6, if_pos h], fun h7 => by rw [if_neg h1, if_neg h2, if_neg h3, if_neg h4, if_neg h5, if_neg h6, if_neg h7]⟩⟩⟩⟩⟩⟩⟩
theorem h149 : c_name_label.ok Tryz.prog GL 149 := con_ok (H := {}) (mkEnv_ok (gl := GL) (l := []) (q := []) (d := []) _ tyOk (by kernel_rfl) trivial trivial trivial) (by kernel_rfl) (by kernel_rfl) (Eq.mp e149 k149)
def t150 : Prop :=
  ∀ (x : q6), (q64 x) -> True -> (decide (q100 x) = true -> True) /\ (decide (q100 x) = true -> (decide (q100 x) == true) = true /\ (q61 x) /\ True) /\ (decide (q100 x) = true -> (decide
  (q100 x) == true) = true /\ True) /\ (decide (q100 x) = true -> (decide (q100 x) == true) = true) /\ ((q99 x) = true -> True) /\ ((q99 x) = true -> (q98 x) = true /\ (q61 x) /\ True) /\
  ((q99 x) = true -> (q98 x) = true /\ True) /\ ((q99 x) = true -> (q98 x) = true) /\ ((q97 x) = true -> True) /\ ((q97 x) = true -> (q96 x) = true /\ (q62 x) /\ True) /\ ((q97 x) = true ->
  (q96 x) = true /\ True) /\ ((q97 x) = true -> (q96 x) = true) /\ ((q95 x) = true -> True) /\ ((q95 x) = true -> (q94 x) = true /\ (q62 x) /\ True) /\ ((q95 x) = true -> (q94 x) = true /\
  True) /\ ((q95 x) = true -> (q94 x) = true) /\ (bif bif bif bif decide (q100 x) then decide (q242 x) else false then decide (q243 x) else false then decide (q237 <= List.getD x.1 (1 : Nat)
  q236) else false then decide (List.getD x.1 q36 q33 <= (90 : Int)) else false) = capsD x.1
theorem e150 : t150 = Con.vc c_name_capitals GL (mkEnv ty [] [] [] [0, 2]) {} Tryz.f150.ntmps Tryz.f150.results.toList (bodyOf Tryz.f150) := by kernel_rfl
theorem k150 : t150 := by
  unfold t150
  delta q6 q64 q100 q61 q99 q98 q97 q96 q62 q95 q94 q242 q243 q237 q236 q36 q33 wsZ lnZ q248 q240 q308
  rintro ⟨l, _⟩ hx hp
  try dsimp +instances only [dft_int, dft_sl, dft_str]
  simp only [true_and, and_true, eq_self_iff_true, implies_true, reduceCtorEq, false_implies, true_implies, decide_eq_true_eq, decide_eq_false_iff_not, beq_self_eq_true, Bool.not_eq_true', ne_eq, Decidable.not_not, List.nil_append, List.length_singleton, List.length_cons, List.length_nil, Nat.zero_add, Nat.add_zero, Nat.mul_one, and_self, beq_iff_eq, Bool.not_true, Bool.not_false, Bool.not_eq_false', Bool.cond_false_right, Bool.and_eq_true, imp_self, Bool.not_eq_true, Bool.cond_true_left, Bool.or_eq_true]
  refine ⟨fun h => ⟨h, by decide, by omega⟩, fun h => ⟨h, by decide, by omega⟩, fun h => ⟨h, by decide, by omega⟩, fun h => ⟨h, by decide, by omega⟩, ?_⟩
  rw [Bool.eq_iff_iff, capsD]
  simp only [Bool.and_eq_true, decide_eq_true_eq]
  omega
theorem h150 : c_name_capitals.ok Tryz.prog GL 150 := con_ok (H := {}) (mkEnv_ok (gl := GL) (l := []) (q := []) (d := []) _ tyOk (by kernel_rfl) trivial trivial trivial) (by kernel_rfl) (by kernel_rfl) (Eq.mp e150 k150)
def t136 : Prop :=
  ∀ (x : q93 × Unit), (Kd.wf q106 x.1 /\ True) -> True -> List.length [SV.dat q107 x.1.1, SV.dat Kd.str x.1.2] <= q65 /\ True /\ (∀ (y : q6), (q64 y) -> y.1 = labelK x.1.1 -> (decide (q245 y)
  = false -> True) /\ (q104 y) /\ (q104 y) /\ (q105 y) /\ ((q244 y x) = false -> True) /\ (q101 y x) /\ (q101 y x) /\ (q101 y x) /\ ((q244 y x) = false -> ((q244 y x) == false) = true) /\
  ((q103 y x) = false -> True) /\ ((q103 y x) = false -> (q102 y x) = true /\ True) /\ ((q103 y x) = false -> (q102 y x) = true /\ True /\ (∀ (y : q4), (q44 y) -> y.1 = mayD (12 : Int) x.1.2
  -> ((!y.1) = true -> false = mayA x.1) /\ ((!y.1) = false -> (decide (x.1.1 = (6 : Int)) = true -> True /\ (∀ (y : q4), (q44 y) -> y.1 = capsD x.1.2 -> ((!y.1) = true -> false = mayA x.1)
  /\ ((!y.1) = false -> True /\ (∀ (y : q4), (q44 y) -> y.1 = mayD (19 : Int) x.1.2 -> y.1 = mayA x.1) /\ True)) /\ True) /\ (decide (x.1.1 = (6 : Int)) = false -> (decide (x.1.1 = (5 : Int))
  = true -> True /\ (∀ (y : q4), (q44 y) -> y.1 = mayD (19 : Int) x.1.2 -> y.1 = mayA x.1) /\ True) /\ (decide (x.1.1 = (5 : Int)) = false -> true = mayA x.1)))) /\ True) /\ ((q103 y x) =
  !false -> false = mayA x.1)) /\ True
theorem e136 : t136 = Con.vc c_name_may GL (mkEnv ty [(149, conSem c_name_label), (148, conSem c_text_May), (150, conSem c_name_capitals)] [] [] [0, 1, 2, 23, 25, 26, 28, 33]) {} Tryz.f136.ntmps Tryz.f136.results.toList (bodyOf Tryz.f136) := by kernel_rfl
theorem k136 : t136 := by
  unfold t136
  delta q93 q106 q107 q65 q6 q64 q245 q104 q105 q244 q101 q103 q102 q4 q44 q304 wsZ lnZ wbZ
  rintro ⟨⟨k, v⟩, _⟩ hx hp
  try dsimp +instances only [dft_int, dft_sl, dft_str]
  simp only [true_and, and_true, eq_self_iff_true, implies_true, reduceCtorEq, false_implies, true_implies, decide_eq_true_eq, decide_eq_false_iff_not, beq_self_eq_true, Bool.not_eq_true', ne_eq, Decidable.not_not, List.nil_append, List.length_singleton, List.length_cons, List.length_nil, Nat.zero_add, Nat.add_zero, Nat.mul_one, and_self, beq_iff_eq, Bool.not_true, Bool.not_false, Bool.not_eq_false', Bool.cond_false_right, Bool.and_eq_true, imp_self, Bool.not_eq_true, Bool.cond_true_left, Bool.or_eq_true]
  rw [bs_nil]
  refine ⟨by decide, ?_⟩
  rintro ⟨a, _⟩ _ ea
  simp only at ea ⊢
  subst ea
  have hv : v = [] ↔ v.length = 0 := ⟨fun h => by rw [h]; rfl, List.eq_nil_of_length_eq_zero⟩
  simp only [Bool.or_eq_false_iff, decide_eq_false_iff_not]
  refine ⟨fun h => ⟨h, ?_⟩, fun h => ?_⟩
  . have hM : mayA (k, v) = (mayD 12 v && (if k = 6 then capsD v && mayD 19 v else if k = 5 then mayD 19 v else true)) := by
      rw [mayA, decide_eq_true ⟨h.1.1, h.1.2, by simp only; omega⟩]; rfl
    rintro ⟨b, _⟩ _ eb
    simp only at eb ⊢
    rw [hM, ← eb]
    refine ⟨fun hb => by rw [hb]; rfl, fun hb => ?_⟩
    rw [hb]
    refine ⟨fun hk => ?_, fun hk => ⟨fun hk5 => ?_, fun hk5 => by rw [if_neg hk, if_neg hk5]; rfl⟩⟩
    . rintro ⟨c, _⟩ _ ec
      simp only at ec ⊢
      rw [if_pos hk, ← ec]
      refine ⟨fun hc => by rw [hc]; rfl, fun hc => ?_⟩
      rintro ⟨d, _⟩ _ ed
      simp only at ed ⊢
      rw [hc, ed]; rfl
    . rintro ⟨d, _⟩ _ ed
      simp only at ed ⊢
      rw [if_neg hk, if_pos hk5, ed]; rfl
  . have key : ¬ (labelK k ≠ [] ∧ v ≠ [] ∧ v.length ≤ 64) := by
      rintro ⟨h1, h2, h3⟩
      rcases h with (h | h) | h
      . exact h1 h
      . exact h2 h
      . omega
    rw [mayA]
    simp only
    rw [decide_eq_false key]; rfl
theorem h136 : c_name_may.ok Tryz.prog GL 136 := con_ok (H := {}) (mkEnv_ok (gl := GL) (l := [(149, conSem c_name_label), (148, conSem c_text_May), (150, conSem c_name_capitals)]) (q := []) (d := []) _ tyOk (by kernel_rfl) ⟨h149.call, h148.call, h150.call, trivial⟩ trivial trivial) (by kernel_rfl) (by kernel_rfl) (Eq.mp e136 k136)
end Go.Proofs.YtgnlcpoeepfdoaaGreatDoor
end
section
namespace Go.Proofs.YtgnlcpoeepfdoaaGreatDoor
open Go Go.Vc Go.Pl Go.Proofs
end Go.Proofs.YtgnlcpoeepfdoaaGreatDoor
end
section
namespace Go.Proofs.YtgnlcpoeepfdoaaGreatDoor
open Go Go.Vc Go.Pl Go.Proofs
set_option linter.unusedVariables false
set_option linter.unusedSimpArgs false
theorem dec_not {p : Prop} {d : Decidable (¬ p)} (h : @decide (¬ p) d = false) : p := Classical.not_not.1 (of_decide_eq_false h)
end Go.Proofs.YtgnlcpoeepfdoaaGreatDoor
end
section
namespace Go.Proofs.YtgnlcpoeepfdoaaGreatDoor
open Go Go.Vc Go.Pl Go.Proofs
end Go.Proofs.YtgnlcpoeepfdoaaGreatDoor
end
section
namespace Go.Proofs.YtgnlcpoeepfdoaaGreatDoor
open Go Go.Vc Go.Pl Go.Proofs
set_option linter.unusedVariables false
set_option linter.unusedSimpArgs false
end Go.Proofs.YtgnlcpoeepfdoaaGreatDoor
end
