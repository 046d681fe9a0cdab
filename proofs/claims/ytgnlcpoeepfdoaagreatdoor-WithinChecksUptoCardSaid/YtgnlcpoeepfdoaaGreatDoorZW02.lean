/- Texts of a verified walk, led together: NameA, NameW, Name2aA, Name2aW, Name2A, Name2W. -/
import Derived.Test.YtgnlcpoeepfdoaaGreatDoorZW01
import Derived.Test.YtgnlcpoeepfdoaaGreatDoorZV07
set_option linter.unusedVariables false
set_option linter.unusedSimpArgs false
section
namespace Go.Proofs.YtgnlcpoeepfdoaaGreatDoor
open Go Go.Vc Go.Pl Go.Proofs
def c_name_Begins : Con := { args := [.dat (.sl AT), .dat (.sl AT)], res := [.dat .bool], pre := fun x => x.2.1.length ≤ 1000000000 ∧ (∀ a ∈ x.1, a.2.length ≤ 100000000) ∧ ∀ a ∈ x.2.1, a.2.length ≤ 100000000, post := fun x y => y.1 = beginsD x.1 x.2.1 }
def c_name_label : Con := { args := [.dat I64], res := [.dat .str], pre := fun _ => True, post := fun x y => y.1 = labelK x.1 }
def c_name_capitals : Con := { args := [.dat .str], res := [.dat .bool], pre := fun _ => True, post := fun x y => y.1 = capsD x.1 }
def c_name_may : Con := { args := [.dat AT], res := [.dat .bool], pre := fun _ => True, post := fun x y => y.1 = mayA x.1 }
end Go.Proofs.YtgnlcpoeepfdoaaGreatDoor
end
section
namespace Go.Proofs.YtgnlcpoeepfdoaaGreatDoor
open Go Go.Vc Go.Pl Go.Proofs
set_option linter.unusedVariables false
set_option linter.unusedSimpArgs false
theorem adft_eq : Kd.dft (Kd.pair (Kd.int IntKind.i64) Kd.str) = adft := rfl
abbrev q20 := (List (Int × List Int) × List (Int × List Int) × Unit)
abbrev q21 := (Int × List Int)
abbrev q22 := ((Int × List Int) × Unit)
abbrev q597 := (Kd.dft (Kd.pair (Kd.int IntKind.i64) Kd.str))
abbrev q460 (p0 : q20) (p1 : q10) := (List.getD p0.2.1 (Int.toNat p1.1) q597)
abbrev q461 (p0 : q20) (p1 : q10) := (List.getD p0.1 (Int.toNat p1.1) q597)
abbrev q166 (p0 : q20) (p1 : q10) := ((q460 p0 p1).1 ≠ (q461 p0 p1).1)
abbrev q572 := (Kd.pair (Kd.int IntKind.i64) Kd.str)
abbrev q508 := (Kd.sl q572)
abbrev q167 (p0 : q20) := (Kd.wf q508 p0.1 /\ Kd.wf q508 p0.2.1 /\ True)
abbrev q168 := (8 : Int)
abbrev q565 := (0 : Nat)
abbrev q462 (p0 : q6) := (q555 <= List.getD p0.1 q565 q557)
abbrev q463 (p0 : q6) := (List.getD p0.1 q565 q557 <= (90 : Int))
abbrev q169 (p0 : q6) := ((bif bif bif decide ((lnZ p0.1) = q500) then decide (q462 p0) else false then decide (q463 p0) else false then decide (q555 <= List.getD p0.1 q556 q452) else
  false) == true)
abbrev q170 (p0 : q6) := (bif bif bif decide ((lnZ p0.1) = q500) then decide (q462 p0) else false then decide (q463 p0) else false then decide (q555 <= List.getD p0.1 q556 q452) else false)
abbrev q171 (p0 : q6) := ((bif bif decide ((lnZ p0.1) = q500) then decide (q462 p0) else false then decide (q463 p0) else false) == true)
abbrev q172 (p0 : q6) := (bif bif decide ((lnZ p0.1) = q500) then decide (q462 p0) else false then decide (q463 p0) else false)
abbrev q173 (p0 : q6) := ((bif decide ((lnZ p0.1) = q500) then decide (q462 p0) else false) == true)
abbrev q174 (p0 : q6) := (bif decide ((lnZ p0.1) = q500) then decide (q462 p0) else false)
abbrev q175 (p0 : q6) := ((lnZ p0.1) = q500)
abbrev q464 (p0 : q6) (p1 : q22) := (bif decide (p0.1 = bs { data := #[] }) then true else decide (p1.1.2 = bs { data := #[] }))
abbrev q176 (p0 : q6) (p1 : q22) := ((q464 p0 p1) = false -> ((q464 p0 p1) == false) = true /\ True)
abbrev q509 (p0 : q6) := (p0.1 = bs { data := #[] })
abbrev q177 (p0 : q6) (p1 : q22) := ((bif bif decide (q509 p0) then true else decide (p1.1.2 = bs { data := #[] }) then true else decide (q455 < (lnZ p1.1.2))) == false)
abbrev q178 (p0 : q6) (p1 : q22) := (bif bif decide (q509 p0) then true else decide (p1.1.2 = bs { data := #[] }) then true else decide (q455 < (lnZ p1.1.2)))
abbrev q179 (p0 : q6) := (decide (q509 p0) = false -> (decide (q509 p0) == false) = true /\ True)
abbrev q180 (p0 : q6) := (decide (q509 p0) = false -> (decide (q509 p0) == false) = true)
abbrev q566 := (Kd.int IntKind.i64)
abbrev q489 := (Kd.pair q566 Kd.str)
abbrev q181 (p0 : q22) := (Kd.wf q489 p0.1 /\ True)
abbrev q182 (p0 : q6) := (decide (q509 p0) = false -> True)
abbrev q183 := (Kd.int IntKind.i64)
def t97 : Prop :=
  ∀ (x : q20), (q167 x) -> (List.length x.2.1 <= q103 /\ (∀ (a : q21), a ∈ x.1 -> List.length a.2 <= q153) /\ ∀ (a : q21), a ∈ x.2.1 -> List.length a.2 <= q153) -> (decide ((lnZ x.1) < (lnZ
  x.2.1)) = true -> false = beginsD x.1 x.2.1) /\ (decide ((lnZ x.1) < (lnZ x.2.1)) = false -> ∃ (I : q8), ∃ (μ : q9), ((lnZ x.2.1) = (lnZ x.2.1) /\ x.2.1 = x.2.1 /\ Value.bool false =
  Value.bool false /\ Value.bool false = Value.bool false /\ x.1 = x.1 /\ x.2.1 = x.2.1 /\ I (q56, true, ()) ()) /\ ∀ (y : q10) (z : Unit), (q102 y) -> True -> I y z -> (decide (y.1 < (lnZ
  x.2.1)) = true -> (q56 <= y.1 /\ y.1 < (lnZ x.2.1)) /\ q93 <= q89 /\ (q56 <= y.1 /\ y.1 < (lnZ x.1)) /\ (decide (q166 x y) = true -> false = beginsD x.1 x.2.1) /\ (decide (q166 x y) = false
  -> (q56 <= y.1 /\ y.1 < (lnZ x.1)) /\ (List.length (q460 x y).2 <= q153 /\ List.length (q461 x y).2 <= q153) /\ (∀ (y_1 : q4), (q67 y_1) -> y_1.1 = decide (foldD (q460 x y).2 = foldD (q461
  x y).2) -> ((!y_1.1) = true -> false = beginsD x.1 x.2.1) /\ ((!y_1.1) = false -> (lnZ x.2.1) = (lnZ x.2.1) /\ x.2.1 = x.2.1 /\ Value.bool false = Value.bool false /\ Value.bool false =
  Value.bool false /\ x.1 = x.1 /\ x.2.1 = x.2.1 /\ I (wrZ (q104 y), y.2.1, ()) () /\ μ (wrZ (q104 y), y.2.1, ()) () < μ y z)) /\ True)) /\ (decide (y.1 < (lnZ x.2.1)) = false -> y.2.1 =
  beginsD x.1 x.2.1))
theorem e97 : t97 = Con.vc c_name_Begins GL (mkEnv ty [(115, conSem c_text_Same)] [] [] [0, 1, 4, 5, 6, 7, 12, 13, 14, 15, 16, 20]) {} Tryz.f97.ntmps Tryz.f97.results.toList (bodyOf Tryz.f97) := by kernel_rfl
theorem k97 : t97 := by
  unfold t97
  delta q20 q167 q103 q21 q153 lnZ q8 q9 q56 q10 q102 q93 q89 q166 q460 q461 q4 q67 wrZ q104 q508 wiZ wbZ q597 q491 q572
  rintro ⟨l, m, _⟩ hx hp
  obtain ⟨h1, h2, h3⟩ := hp
  simp only at h1 h2 h3
  try dsimp +instances only [dft_int, dft_sl, dft_str]
  simp only [true_and, and_true, eq_self_iff_true, implies_true, reduceCtorEq, false_implies, true_implies, decide_eq_true_eq, decide_eq_false_iff_not, beq_self_eq_true, Bool.not_eq_true', ne_eq, Decidable.not_not, List.nil_append, List.length_singleton, List.length_cons, List.length_nil, Nat.zero_add, Nat.add_zero, Nat.mul_one, and_self, beq_iff_eq, Bool.not_true, Bool.not_false, Bool.not_eq_false', Bool.cond_false_right, Bool.and_eq_true, imp_self, Bool.not_eq_true, Bool.cond_true_left, Bool.or_eq_true]
  simp only [adft_eq]
  have hbad : ∀ i, i < m.length → sameA (l.getD i adft) (m.getD i adft) = false → false = beginsD l m := fun i hi hf => by
    cases hb : beginsD l m with
    | false => rfl
    | true => have := ((begins_iff l m).1 hb).2 i hi; rw [hf] at this; cases this
  refine ⟨fun h => ?_, fun h => ?_⟩
  . cases hb : beginsD l m with
    | false => rfl
    | true => have := ((begins_iff l m).1 hb).1; omega
  refine ⟨fun y _ => 0 ≤ y.1 ∧ y.1 ≤ m.length ∧ y.2.1 = true ∧ ∀ j, j < y.1.toNat → sameA (l.getD j adft) (m.getD j adft) = true, fun y _ => ((m.length : Int) - y.1).toNat, ⟨Int.le_refl 0, by simp only; omega, rfl, fun j hj => by simp at hj⟩, ?_⟩
  rintro ⟨i, b, _⟩ _ _ ⟨i0, i1, ib, i2⟩
  simp only at i0 i1 ib i2 ⊢
  have hw1 : i < m.length → IntKind.wrap .i64 (i + 1) = i + 1 := fun _ => wrapK _ (by omega) (by omega)
  refine ⟨fun hlt => ⟨⟨i0, hlt⟩, by decide, ⟨i0, by omega⟩, fun hne => hbad i.toNat (by omega) ?_, fun he => ⟨⟨i0, by omega⟩, ⟨h3 _ (mem_getD adft m _ (by omega)), h2 _ (mem_getD adft l _ (by omega))⟩, ?_⟩⟩, fun hge => ?_⟩
  . rw [sameA, decide_eq_false (fun e => hne e.symm)]; rfl
  . rintro ⟨c, _⟩ _ ec
    simp only at ec ⊢
    have hs : sameA (l.getD i.toNat adft) (m.getD i.toNat adft) = c := by
      rw [sameA, decide_eq_true he.symm, ec, Bool.true_and]
      exact decide_eq_decide.2 eq_comm
    rw [hw1 hlt]
    refine ⟨fun hc => hbad i.toNat (by omega) (hs.trans hc), fun hc => ⟨⟨by omega, by omega, ib, fun j hj => ?_⟩, by omega⟩⟩
    by_cases hji : j < i.toNat
    . exact i2 j hji
    . rw [show j = i.toNat by omega]; exact hs.trans hc
  . rw [ib]
    exact ((begins_iff l m).2 ⟨by omega, fun j hj => i2 j (by omega)⟩).symm
theorem h97 : c_name_Begins.ok Tryz.prog GL 97 := con_ok (H := {}) (mkEnv_ok (gl := GL) (l := [(115, conSem c_text_Same)]) (q := []) (d := []) _ tyOk (by kernel_rfl) ⟨h115.call, trivial⟩ trivial trivial) (by kernel_rfl) (by kernel_rfl) (Eq.mp e97 k97)
def t149 : Prop :=
  ∀ (x : q1), (q52 x) -> True -> (decide (x.1 = (3 : Int)) = true -> bs { data := #[(67 : UInt8), (78 : UInt8)] } = labelK x.1) /\ (decide (x.1 = (3 : Int)) = false -> (decide (x.1 = (5 :
  Int)) = true -> bs { data := #[(83 : UInt8), (78 : UInt8)] } = labelK x.1) /\ (decide (x.1 = (5 : Int)) = false -> (decide (x.1 = (6 : Int)) = true -> bs { data := #[(67 : UInt8)] } =
  labelK x.1) /\ (decide (x.1 = (6 : Int)) = false -> (decide (x.1 = (7 : Int)) = true -> bs { data := #[(76 : UInt8)] } = labelK x.1) /\ (decide (x.1 = (7 : Int)) = false -> (decide (x.1 =
  q168) = true -> bs { data := #[(83 : UInt8), (84 : UInt8)] } = labelK x.1) /\ (decide (x.1 = q168) = false -> (decide (x.1 = (10 : Int)) = true -> bs { data := #[(79 : UInt8)] } = labelK
  x.1) /\ (decide (x.1 = (10 : Int)) = false -> (decide (x.1 = (11 : Int)) = true -> bs { data := #[(79 : UInt8), (85 : UInt8)] } = labelK x.1) /\ (decide (x.1 = (11 : Int)) = false -> bs {
  data := #[] } = labelK x.1)))))))
theorem e149 : t149 = Con.vc c_name_label GL (mkEnv ty [] [] [] [0, 2, 3, 4, 6, 8, 10, 12, 14, 16]) {} Tryz.f149.ntmps Tryz.f149.results.toList (bodyOf Tryz.f149) := by kernel_rfl
theorem k149 : t149 := by
  unfold t149
  delta q1 q52 q168 wiZ
  rintro ⟨l, _⟩ hx hp
  try dsimp +instances only [dft_int, dft_sl, dft_str]
  simp only [true_and, and_true, eq_self_iff_true, implies_true, reduceCtorEq, false_implies, true_implies, decide_eq_true_eq, decide_eq_false_iff_not, beq_self_eq_true, Bool.not_eq_true', ne_eq, Decidable.not_not, List.nil_append, List.length_singleton, List.length_cons, List.length_nil, Nat.zero_add, Nat.add_zero, Nat.mul_one, and_self, beq_iff_eq, Bool.not_true, Bool.not_false, Bool.not_eq_false', Bool.cond_false_right, Bool.and_eq_true, imp_self, Bool.not_eq_true, Bool.cond_true_left, Bool.or_eq_true]
  have e1 : bs { data := #[67, 78] } = [67, 78] := by decide
  have e2 : bs { data := #[83, 78] } = [83, 78] := by decide
  have e3 : bs { data := #[67] } = [67] := by decide
  have e4 : bs { data := #[76] } = [76] := by decide
  have e5 : bs { data := #[83, 84] } = [83, 84] := by decide
  have e6 : bs { data := #[79] } = [79] := by decide
  have e7 : bs { data := #[79, 85] } = [79, 85] := by decide
  rw [e1, e2, e3, e4, e5, e6, e7, bs_nil]
  unfold labelK
  refine ⟨fun h => by rw [if_pos h], fun h1 => ⟨fun h => by rw [if_neg h1, if_pos h], fun h2 => ⟨fun h => by rw [if_neg h1, if_neg h2, if_pos h], fun h3 => ⟨fun h => by rw [if_neg h1, if_neg h2, if_neg h3, if_pos h], fun h4 => ⟨fun h => by rw [if_neg h1, if_neg h2, if_neg h3, if_neg h4, if_pos h], fun h5 => ⟨fun h => by rw [if_neg h1, if_neg h2, if_neg h3, if_neg h4, if_neg h5, if_pos h], fun h6 => ⟨fun h => by rw [if_neg h1, if_neg h2, if_neg h3, if_neg h4, if_neg h5, if_neg h6, if_pos h], fun h7 => by rw [if_neg h1, if_neg h2, if_neg h3, if_neg h4, if_neg h5, if_neg h6, if_neg h7]⟩⟩⟩⟩⟩⟩⟩
theorem h149 : c_name_label.ok Tryz.prog GL 149 := con_ok (H := {}) (mkEnv_ok (gl := GL) (l := []) (q := []) (d := []) _ tyOk (by kernel_rfl) trivial trivial trivial) (by kernel_rfl) (by kernel_rfl) (Eq.mp e149 k149)
def t150 : Prop :=
  ∀ (x : q6), (q88 x) -> True -> (decide (q175 x) = true -> True) /\ (decide (q175 x) = true -> (decide (q175 x) == true) = true /\ (q84 x) /\ True) /\ (decide (q175 x) = true -> (decide
  (q175 x) == true) = true /\ True) /\ (decide (q175 x) = true -> (decide (q175 x) == true) = true) /\ ((q174 x) = true -> True) /\ ((q174 x) = true -> (q173 x) = true /\ (q84 x) /\ True) /\
  ((q174 x) = true -> (q173 x) = true /\ True) /\ ((q174 x) = true -> (q173 x) = true) /\ ((q172 x) = true -> True) /\ ((q172 x) = true -> (q171 x) = true /\ (q85 x) /\ True) /\ ((q172 x) =
  true -> (q171 x) = true /\ True) /\ ((q172 x) = true -> (q171 x) = true) /\ ((q170 x) = true -> True) /\ ((q170 x) = true -> (q169 x) = true /\ (q85 x) /\ True) /\ ((q170 x) = true -> (q169
  x) = true /\ True) /\ ((q170 x) = true -> (q169 x) = true) /\ (bif bif bif bif decide (q175 x) then decide (q462 x) else false then decide (q463 x) else false then decide (q555 <= List.getD
  x.1 q556 q452) else false then decide (List.getD x.1 q59 q56 <= (90 : Int)) else false) = capsD x.1
theorem e150 : t150 = Con.vc c_name_capitals GL (mkEnv ty [] [] [] [0, 2]) {} Tryz.f150.ntmps Tryz.f150.results.toList (bodyOf Tryz.f150) := by kernel_rfl
theorem k150 : t150 := by
  unfold t150
  delta q6 q88 q175 q84 q174 q173 q172 q171 q85 q170 q169 q462 q463 q555 q556 q452 q59 q56 wsZ lnZ q500 q491 q565 q557
  rintro ⟨l, _⟩ hx hp
  try dsimp +instances only [dft_int, dft_sl, dft_str]
  simp only [true_and, and_true, eq_self_iff_true, implies_true, reduceCtorEq, false_implies, true_implies, decide_eq_true_eq, decide_eq_false_iff_not, beq_self_eq_true, Bool.not_eq_true', ne_eq, Decidable.not_not, List.nil_append, List.length_singleton, List.length_cons, List.length_nil, Nat.zero_add, Nat.add_zero, Nat.mul_one, and_self, beq_iff_eq, Bool.not_true, Bool.not_false, Bool.not_eq_false', Bool.cond_false_right, Bool.and_eq_true, imp_self, Bool.not_eq_true, Bool.cond_true_left, Bool.or_eq_true]
  refine ⟨fun h => ⟨h, by decide, by omega⟩, fun h => ⟨h, by decide, by omega⟩, fun h => ⟨h, by decide, by omega⟩, fun h => ⟨h, by decide, by omega⟩, ?_⟩
  rw [Bool.eq_iff_iff, capsD]
  simp only [Bool.and_eq_true, decide_eq_true_eq]
  omega
theorem h150 : c_name_capitals.ok Tryz.prog GL 150 := con_ok (H := {}) (mkEnv_ok (gl := GL) (l := []) (q := []) (d := []) _ tyOk (by kernel_rfl) trivial trivial trivial) (by kernel_rfl) (by kernel_rfl) (Eq.mp e150 k150)
def t136 : Prop :=
  ∀ (x : q22), (q181 x) -> True -> List.length [SV.dat q183 x.1.1, SV.dat Kd.str x.1.2] <= q89 /\ True /\ (∀ (y : q6), (q88 y) -> y.1 = labelK x.1.1 -> (q182 y) /\ (q179 y) /\ (q179 y) /\
  (q180 y) /\ ((q464 y x) = false -> True) /\ (q176 y x) /\ (q176 y x) /\ (q176 y x) /\ ((q464 y x) = false -> ((q464 y x) == false) = true) /\ ((q178 y x) = false -> True) /\ ((q178 y x) =
  false -> (q177 y x) = true /\ True) /\ ((q178 y x) = false -> (q177 y x) = true /\ True /\ (∀ (y : q4), (q67 y) -> y.1 = mayD q90 x.1.2 -> ((!y.1) = true -> false = mayA x.1) /\ ((!y.1) =
  false -> (decide (x.1.1 = (6 : Int)) = true -> True /\ (∀ (y : q4), (q67 y) -> y.1 = capsD x.1.2 -> ((!y.1) = true -> false = mayA x.1) /\ ((!y.1) = false -> True /\ (∀ (y : q4), (q67 y) ->
  y.1 = mayD (19 : Int) x.1.2 -> y.1 = mayA x.1) /\ True)) /\ True) /\ (decide (x.1.1 = (6 : Int)) = false -> (decide (x.1.1 = (5 : Int)) = true -> True /\ (∀ (y : q4), (q67 y) -> y.1 = mayD
  (19 : Int) x.1.2 -> y.1 = mayA x.1) /\ True) /\ (decide (x.1.1 = (5 : Int)) = false -> true = mayA x.1)))) /\ True) /\ ((q178 y x) = !false -> false = mayA x.1)) /\ True
theorem e136 : t136 = Con.vc c_name_may GL (mkEnv ty [(149, conSem c_name_label), (148, conSem c_text_May), (150, conSem c_name_capitals)] [] [] [0, 1, 2, 23, 25, 26, 28, 33]) {} Tryz.f136.ntmps Tryz.f136.results.toList (bodyOf Tryz.f136) := by kernel_rfl
theorem k136 : t136 := by
  unfold t136
  delta q22 q181 q183 q89 q6 q88 q182 q179 q180 q464 q176 q178 q177 q4 q67 q90 q489 wsZ q509 q455 lnZ wbZ q566
  rintro ⟨⟨k, v⟩, _⟩ hx hp
  try dsimp +instances only [dft_int, dft_sl, dft_str]
  simp only [true_and, and_true, eq_self_iff_true, implies_true, reduceCtorEq, false_implies, true_implies, decide_eq_true_eq, decide_eq_false_iff_not, beq_self_eq_true, Bool.not_eq_true', ne_eq, Decidable.not_not, List.nil_append, List.length_singleton, List.length_cons, List.length_nil, Nat.zero_add, Nat.add_zero, Nat.mul_one, and_self, beq_iff_eq, Bool.not_true, Bool.not_false, Bool.not_eq_false', Bool.cond_false_right, Bool.and_eq_true, imp_self, Bool.not_eq_true, Bool.cond_true_left, Bool.or_eq_true]
  rw [bs_nil]
  refine ⟨by decide, ?_⟩
  rintro ⟨a, _⟩ _ ea
  simp only at ea ⊢
  subst ea
  have hv : v = [] ↔ v.length = 0 := ⟨fun h => by rw [h]; rfl, List.eq_nil_of_length_eq_zero⟩
  simp only [Bool.or_eq_false_iff, decide_eq_false_iff_not]
  refine ⟨fun h => ⟨h, ?_⟩, fun h => ?_⟩
  . have hM : mayA (k, v) = (mayD 12 v && (if k = 6 then capsD v && mayD 19 v else if k = 5 then mayD 19 v else true)) := by
      rw [mayA, decide_eq_true ⟨h.1.1, h.1.2, by simp only; omega⟩]; rfl
    rintro ⟨b, _⟩ _ eb
    simp only at eb ⊢
    rw [hM, ← eb]
    refine ⟨fun hb => by rw [hb]; rfl, fun hb => ?_⟩
    rw [hb]
    refine ⟨fun hk => ?_, fun hk => ⟨fun hk5 => ?_, fun hk5 => by rw [if_neg hk, if_neg hk5]; rfl⟩⟩
    . rintro ⟨c, _⟩ _ ec
      simp only at ec ⊢
      rw [if_pos hk, ← ec]
      refine ⟨fun hc => by rw [hc]; rfl, fun hc => ?_⟩
      rintro ⟨d, _⟩ _ ed
      simp only at ed ⊢
      rw [hc, ed]; rfl
    . rintro ⟨d, _⟩ _ ed
      simp only at ed ⊢
      rw [if_neg hk, if_pos hk5, ed]; rfl
  . have key : ¬ (labelK k ≠ [] ∧ v ≠ [] ∧ v.length ≤ 64) := by
      rintro ⟨h1, h2, h3⟩
      rcases h with (h | h) | h
      . exact h1 h
      . exact h2 h
      . omega
    rw [mayA]
    simp only
    rw [decide_eq_false key]; rfl
theorem h136 : c_name_may.ok Tryz.prog GL 136 := con_ok (H := {}) (mkEnv_ok (gl := GL) (l := [(149, conSem c_name_label), (148, conSem c_text_May), (150, conSem c_name_capitals)]) (q := []) (d := []) _ tyOk (by kernel_rfl) ⟨h149.call, h148.call, h150.call, trivial⟩ trivial trivial) (by kernel_rfl) (by kernel_rfl) (Eq.mp e136 k136)
end Go.Proofs.YtgnlcpoeepfdoaaGreatDoor
end
section
namespace Go.Proofs.YtgnlcpoeepfdoaaGreatDoor
open Go Go.Vc Go.Pl Go.Proofs
end Go.Proofs.YtgnlcpoeepfdoaaGreatDoor
end
section
namespace Go.Proofs.YtgnlcpoeepfdoaaGreatDoor
open Go Go.Vc Go.Pl Go.Proofs
set_option linter.unusedVariables false
set_option linter.unusedSimpArgs false
theorem adft_eq2 : Kd.dft (Kd.pair (Kd.int IntKind.i64) Kd.str) = adft := rfl
theorem dec_not {p : Prop} {d : Decidable (¬ p)} (h : @decide (¬ p) d = false) : p := Classical.not_not.1 (of_decide_eq_false h)
end Go.Proofs.YtgnlcpoeepfdoaaGreatDoor
end
section
namespace Go.Proofs.YtgnlcpoeepfdoaaGreatDoor
open Go Go.Vc Go.Pl Go.Proofs
def c_r12_Begins : Con := { args := [.dat (.sl AT), .dat (.sl AT)], res := [.dat .bool], pre := fun x => x.2.1.length ≤ 1000000000 ∧ (∀ a ∈ x.1, a.2.length ≤ 100000000) ∧ ∀ a ∈ x.2.1, a.2.length ≤ 100000000, post := fun x y => y.1 = beginsD x.1 x.2.1 }
end Go.Proofs.YtgnlcpoeepfdoaaGreatDoor
end
section
namespace Go.Proofs.YtgnlcpoeepfdoaaGreatDoor
open Go Go.Vc Go.Pl Go.Proofs
set_option linter.unusedVariables false
set_option linter.unusedSimpArgs false
abbrev q592 (p0 : q20) (p1 : q10) := (List.getD p0.1 (Int.toNat p1.1) q597)
abbrev q591 (p0 : q20) (p1 : q10) := (List.getD p0.2.1 (Int.toNat p1.1) q597)
abbrev q586 (p0 : q20) (p1 : q10) := ((q592 p0 p1).1 ≠ (q591 p0 p1).1)
abbrev q577 (p0 : q20) (p1 : q10) := (bif decide ((lnZ p0.1) <= p1.1) then true else decide (q586 p0 p1))
abbrev q576 (p0 : q20) (p1 : q10) := ((bif decide ((lnZ p0.1) <= p1.1) then true else decide (q586 p0 p1)) == false)
abbrev q511 (p0 : q20) (p1 : q10) := ((q577 p0 p1) = false -> (q576 p0 p1) = true /\ True)
abbrev q513 (p0 : q20) (p1 : q10) := (bif decide ((lnZ p0.1) <= p1.1) then true else decide (q586 p0 p1))
abbrev q512 (p0 : q20) (p1 : q10) := ((q577 p0 p1) == false)
abbrev q514 := (100000000 : Nat)
abbrev q573 := (100000000 : Nat)
abbrev q510 (p0 : q20) (p1 : q10) (p2 : q8) (p3 : q9) (p4 : Unit) := (((q577 p0 p1) = false -> (q576 p0 p1) = true /\ True) /\ (((q577 p0 p1) = false -> (q576 p0 p1) = true /\ List.length
  (q592 p0 p1).2 <= q573 /\ (∀ (y_1 : q6), (wsZ y_1.1 /\ True) -> y_1.1 = foldD (q592 p0 p1).2 -> ((q576 p0 p1) = true /\ List.length (q591 p0 p1).2 <= q573 /\ (∀ (y_2 : q6), (wsZ y_2.1 /\
  True) -> y_2.1 = foldD (q591 p0 p1).2 -> (((decide (y_1.1 ≠ y_2.1) = true -> false = beginsD p0.1 p0.2.1) /\ (decide (y_1.1 ≠ y_2.1) = false -> p0.1 = p0.1 /\ p0.2.1 = p0.2.1 /\ p2 (wrZ
  (p1.1 + (1 : Int)), p1.2.1, ()) () /\ p3 (wrZ (p1.1 + (1 : Int)), p1.2.1, ()) () < p3 p1 p4)) /\ True) /\ True) /\ True) /\ True) /\ True) /\ ((q577 p0 p1) = !false -> ((false = beginsD
  p0.1 p0.2.1 /\ True) /\ True) /\ True)) /\ True)
abbrev q184 (p0 : q20) (p1 : q10) (p2 : q8) (p3 : q9) (p4 : Unit) := ((q511 p0 p1) /\ (((q513 p0 p1) = false -> (q512 p0 p1) = true /\ List.length (q461 p0 p1).2 <= q514 /\ (∀ (y_1 : q6),
  (wsZ y_1.1 /\ True) -> y_1.1 = foldD (q461 p0 p1).2 -> ((q512 p0 p1) = true /\ (List.length (q460 p0 p1).2 <= q514 /\ (∀ (y_2 : q6), (wsZ y_2.1 /\ True) -> y_2.1 = foldD (q460 p0 p1).2 ->
  (((decide (y_1.1 ≠ y_2.1) = true -> false = beginsD p0.1 p0.2.1) /\ (decide (y_1.1 ≠ y_2.1) = false -> p0.1 = p0.1 /\ p0.2.1 = p0.2.1 /\ p2 (wrZ (p1.1 + q491), p1.2.1, ()) () /\ p3 (wrZ
  (p1.1 + q491), p1.2.1, ()) () < p3 p1 p4)) /\ True) /\ True) /\ True) /\ True) /\ True) /\ True) /\ ((q513 p0 p1) = !false -> (((false = beginsD p0.1 p0.2.1 /\ True) /\ True) /\ True) /\
  True)) /\ (q510 p0 p1 p2 p3 p4) /\ True)
abbrev q185 (p0 : q20) (p1 : q10) (p2 : q8) (p3 : q9) (p4 : Unit) := ((q511 p0 p1) /\ (q510 p0 p1 p2 p3 p4) /\ True)
abbrev q186 (p0 : q20) (p1 : q10) := ((q513 p0 p1) = false -> (q512 p0 p1) = true /\ (q512 p0 p1) = true /\ (q452 <= p1.1 /\ p1.1 < (lnZ p0.2.1)) /\ True)
abbrev q187 (p0 : q20) (p1 : q10) := ((q513 p0 p1) = false -> (q512 p0 p1) = true /\ (q512 p0 p1) = true /\ (q452 <= p1.1 /\ p1.1 < (lnZ p0.1)) /\ True)
abbrev q188 (p0 : q20) (p1 : q10) := ((q513 p0 p1) = false -> (q512 p0 p1) = true /\ True)
abbrev q189 (p0 : q20) (p1 : q10) := (decide ((lnZ p0.1) <= p1.1) = false -> (decide ((lnZ p0.1) <= p1.1) == false) = true /\ (decide ((lnZ p0.1) <= p1.1) == false) = true /\ True)
abbrev q190 (p0 : q20) (p1 : q10) := (decide ((lnZ p0.1) <= p1.1) = false -> (decide ((lnZ p0.1) <= p1.1) == false) = true /\ True)
abbrev q191 (p0 : q20) (p1 : q10) := (decide ((lnZ p0.1) <= p1.1) == false)
abbrev q465 (p0 : q20) (p1 : q10) (p2 : q8) (p3 : q9) (p4 : Unit) := ((q190 p0 p1) /\ ((q190 p0 p1) /\ ((q189 p0 p1) /\ ((decide ((lnZ p0.1) <= p1.1) = false -> (q191 p0 p1) = true) /\
  (q187 p0 p1) /\ (q188 p0 p1) /\ (q186 p0 p1) /\ (q188 p0 p1) /\ (q184 p0 p1 p2 p3 p4) /\ (q185 p0 p1 p2 p3 p4) /\ True) /\ True) /\ True) /\ True)
def t69 : Prop :=
  ∀ (x : q20), (q167 x) -> (List.length x.2.1 <= q103 /\ (∀ (a : q21), a ∈ x.1 -> List.length a.2 <= q153) /\ ∀ (a : q21), a ∈ x.2.1 -> List.length a.2 <= q153) -> ∃ (I : q8), ∃ (μ : q9),
  (x.1 = x.1 /\ x.2.1 = x.2.1 /\ I (q56, false, ()) ()) /\ ∀ (y : q10) (z : Unit), (q102 y) -> True -> I y z -> (decide (y.1 < (lnZ x.2.1)) = true -> (((decide ((lnZ x.1) <= y.1) = false ->
  (q191 x y) = true /\ (q191 x y) = true /\ (q56 <= y.1 /\ y.1 < (lnZ x.1)) /\ True) /\ (q190 x y) /\ (decide ((lnZ x.1) <= y.1) = false -> (q191 x y) = true /\ (q191 x y) = true /\ (q56 <=
  y.1 /\ y.1 < (lnZ x.2.1)) /\ True) /\ (q190 x y) /\ (q465 x y I μ z) /\ (q465 x y I μ z) /\ True) /\ True) /\ True) /\ (decide (y.1 < (lnZ x.2.1)) = false -> true = beginsD x.1 x.2.1)
theorem e69 : t69 = Con.vc c_r12_Begins GL (mkEnv ty [(98, conSem c_r05_Fold)] [] [] [0, 1, 4, 5, 9, 43]) {} Tryz.f69.ntmps Tryz.f69.results.toList (bodyOf Tryz.f69) := by kernel_rfl
theorem k69 : t69 := by
  unfold t69
  delta q20 q167 q103 q21 q153 q8 q9 q56 q10 q102 lnZ q191 q190 q465 q508 wiZ wbZ q189 q187 q188 q186 q184 q185 q572 q513 q512 q452 q511 q461 q514 q6 wsZ q460 wrZ q491 q510 q586 q577 q576 q597 q592 q573 q591
  rintro ⟨l, m, _⟩ hx hp
  obtain ⟨h1, h2, h3⟩ := hp
  simp only at h1 h2 h3
  try dsimp +instances only [dft_int, dft_sl, dft_str]
  simp only [true_and, and_true, eq_self_iff_true, implies_true, reduceCtorEq, false_implies, true_implies, decide_eq_true_eq, decide_eq_false_iff_not, beq_self_eq_true, Bool.not_eq_true', ne_eq, Decidable.not_not, List.nil_append, List.length_singleton, List.length_cons, List.length_nil, Nat.zero_add, Nat.add_zero, Nat.mul_one, and_self, beq_iff_eq, Bool.not_true, Bool.not_false, Bool.not_eq_false', Bool.cond_false_right, Bool.and_eq_true, imp_self, Bool.not_eq_true, Bool.cond_true_left, Bool.or_eq_true]
  simp only [adft_eq2]
  have hlen : beginsD l m = true → m.length ≤ l.length := fun h => ((begins_iff l m).1 h).1
  have hbad : ∀ i, i < m.length → sameA (l.getD i adft) (m.getD i adft) = false → false = beginsD l m := fun i hi hf => by
    cases hb : beginsD l m with
    | false => rfl
    | true => have := ((begins_iff l m).1 hb).2 i hi; rw [hf] at this; cases this
  refine ⟨fun y _ => 0 ≤ y.1 ∧ y.1 ≤ m.length ∧ y.1 ≤ l.length ∧ ∀ j, j < y.1.toNat → sameA (l.getD j adft) (m.getD j adft) = true, fun y _ => ((m.length : Int) - y.1).toNat, ⟨Int.le_refl 0, by simp only; omega, by simp only; omega, fun j hj => by simp at hj⟩, ?_⟩
  rintro ⟨i, b, _⟩ _ _ ⟨i0, i1, i3, i2⟩
  simp only at i0 i1 i2 i3 ⊢
  refine ⟨fun hlt => ?_, fun hge => ((begins_iff l m).2 ⟨by omega, fun j hj => i2 j (by omega)⟩).symm⟩
  have hw1 : IntKind.wrap .i64 (i + 1) = i + 1 := wrapK _ (by omega) (by omega)
  rw [hw1]
  simp only [Bool.or_eq_false_iff, decide_eq_false_iff_not]
  refine ⟨fun h => ⟨h, h, i0, by omega⟩, fun h => ⟨h, h, i0, hlt⟩, fun h => ⟨h, h, i0, by omega⟩, fun h => ⟨h, h, i0, hlt⟩, fun h => ⟨h, h2 _ (mem_getD adft l _ (by omega)), ?_⟩, fun h => ?_⟩
  . rintro ⟨c, _⟩ _ ec
    simp only at ec ⊢
    refine ⟨h, h3 _ (mem_getD adft m _ (by omega)), ?_⟩
    rintro ⟨d, _⟩ _ ed
    simp only at ed ⊢
    have hs : sameA (l.getD i.toNat adft) (m.getD i.toNat adft) = decide (c = d) := by
      rw [sameA, decide_eq_true (dec_not h.2), ec, ed, Bool.true_and]
    refine ⟨fun hc => hbad i.toNat (by omega) (hs.trans (decide_eq_false hc)), fun hc => ⟨⟨by omega, by omega, by omega, fun j hj => ?_⟩, by omega⟩⟩
    by_cases hji : j < i.toNat
    . exact i2 j hji
    . rw [show j = i.toNat by omega]; exact hs.trans (decide_eq_true hc)
  . rcases h with h | h
    . cases hb : beginsD l m with
      | false => rfl
      | true => have := hlen hb; omega
    . refine hbad i.toNat (by omega) ?_
      rw [sameA, decide_eq_false h]; rfl
theorem h69 : c_r12_Begins.ok Tryz.prog GL 69 := con_ok (H := {}) (mkEnv_ok (gl := GL) (l := [(98, conSem c_r05_Fold)]) (q := []) (d := []) _ tyOk (by kernel_rfl) ⟨h98.call, trivial⟩ trivial trivial) (by kernel_rfl) (by kernel_rfl) (Eq.mp e69 k69)
end Go.Proofs.YtgnlcpoeepfdoaaGreatDoor
end
