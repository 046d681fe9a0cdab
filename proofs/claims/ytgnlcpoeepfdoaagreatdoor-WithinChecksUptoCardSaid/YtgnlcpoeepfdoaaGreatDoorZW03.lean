/- Texts of a verified walk, led together: NampA, NampW. -/
import Derived.Test.YtgnlcpoeepfdoaaGreatDoorZW02
import Derived.Test.YtgnlcpoeepfdoaaGreatDoorZV08
set_option linter.unusedVariables false
set_option linter.unusedSimpArgs false
section
namespace Go.Proofs.YtgnlcpoeepfdoaaGreatDoor
open Go Go.Vc Go.Pl Go.Proofs
def c_r12_Label : Con := { args := [.dat I64], res := [.dat .str], pre := fun _ => True, post := fun x y => y.1 = labelK x.1 }
def c_r12_MayAttr : Con := { args := [.dat AT], res := [.dat .bool], pre := fun x => x.1.2.length ≤ 100000000, post := fun x y => y.1 = mayA x.1 }
def c_r12_May : Con := { args := [.dat (.sl AT)], res := [.dat .bool], pre := fun x => x.1.length ≤ 1000000000 ∧ ∀ a ∈ x.1, a.2.length ≤ 100000000, post := fun x y => y.1 = mayN x.1 }
end Go.Proofs.YtgnlcpoeepfdoaaGreatDoor
end
section
namespace Go.Proofs.YtgnlcpoeepfdoaaGreatDoor
open Go Go.Vc Go.Pl Go.Proofs
set_option linter.unusedVariables false
set_option linter.unusedSimpArgs false
theorem adft_eq3 : Kd.dft (Kd.pair (Kd.int IntKind.i64) Kd.str) = adft := rfl
abbrev q23 := (List (Int × List Int) × Unit)
abbrev q192 (p0 : q1) := (decide (p0.1 < q452) == false)
abbrev q193 := (Kd.dft Kd.str)
abbrev q515 (p0 : q22) := (bif bif bif decide ((lnZ p0.1.2) = (2 : Int)) then decide (q555 <= List.getD p0.1.2 q565 q557) else false then decide (List.getD p0.1.2 q565 q557 <= (90 : Int))
  else false then decide (q555 <= List.getD p0.1.2 q556 q557) else false)
abbrev q194 (p0 : q22) := ((q515 p0) = true -> ((q515 p0) == true) = true /\ True)
abbrev q516 (p0 : q22) := (bif bif decide ((lnZ p0.1.2) = (2 : Int)) then decide (q555 <= List.getD p0.1.2 q565 q557) else false then decide (List.getD p0.1.2 q565 q557 <= (90 : Int)) else
  false)
abbrev q195 (p0 : q22) := ((q516 p0) = true -> ((q516 p0) == true) = true /\ True)
abbrev q196 (p0 : q22) := ((q515 p0) == true)
abbrev q469 (p0 : q22) := ((lnZ p0.1.2) = (2 : Int))
abbrev q467 (p0 : q22) := (q555 <= List.getD p0.1.2 q565 q557)
abbrev q468 (p0 : q22) := (List.getD p0.1.2 q565 q557 <= (90 : Int))
abbrev q197 (p0 : q22) := (bif bif bif decide (q469 p0) then decide (q467 p0) else false then decide (q468 p0) else false then decide (q555 <= List.getD p0.1.2 q556 q557) else false)
abbrev q517 (p0 : q22) := (bif decide ((lnZ p0.1.2) = (2 : Int)) then decide (q555 <= List.getD p0.1.2 q565 q557) else false)
abbrev q198 (p0 : q22) := ((q517 p0) = true -> ((q517 p0) == true) = true /\ True)
abbrev q466 (p0 : q6) (p1 : q22) := (bif decide (p0.1 = bs { data := #[] }) then true else decide ((lnZ p1.1.2) < (1 : Int)))
abbrev q199 (p0 : q6) (p1 : q22) := ((q466 p0 p1) = false -> ((q466 p0 p1) == false) = true /\ True)
abbrev q200 (p0 : q22) := ((q516 p0) == true)
abbrev q201 (p0 : q22) := (bif bif decide (q469 p0) then decide (q467 p0) else false then decide (q468 p0) else false)
abbrev q202 (p0 : q6) (p1 : q22) := ((bif bif decide (q509 p0) then true else decide ((lnZ p1.1.2) < q491) then true else decide (q455 < (lnZ p1.1.2))) == false)
abbrev q203 (p0 : q6) (p1 : q22) := (bif bif decide (q509 p0) then true else decide ((lnZ p1.1.2) < q491) then true else decide (q455 < (lnZ p1.1.2)))
abbrev q204 (p0 : q22) := ((q517 p0) == true)
abbrev q205 (p0 : q22) := (bif decide (q469 p0) then decide (q467 p0) else false)
abbrev q206 (p0 : q22) := (decide (q469 p0) = true -> (decide (q469 p0) == true) = true /\ True)
abbrev q207 (p0 : q23) := (Kd.wf q508 p0.1 /\ True)
abbrev q470 := (Kd.dft q572)
def t125 : Prop :=
  ∀ (x : q1), (q52 x) -> True -> (decide (x.1 < q452) = false -> True) /\ (decide (x.1 < q452) = false -> True) /\ (decide (x.1 < q452) = false -> (q192 x) = true /\ True) /\ (decide (x.1 <
  q452) = false -> (q192 x) = true /\ (q192 x) = true /\ True) /\ (decide (x.1 < q452) = false -> (q192 x) = true) /\ ((bif decide (x.1 < q452) then true else decide ((↑(12 : Nat) : Int) <=
  x.1)) = true -> bs { data := #[] } = labelK x.1) /\ ((bif decide (x.1 < q452) then true else decide ((↑(12 : Nat) : Int) <= x.1)) = false -> (q56 <= x.1 /\ x.1 < (↑(12 : Nat) : Int)) /\
  List.getD [bs { data := #[] }, bs { data := #[] }, bs { data := #[] }, bs { data := #[(67 : UInt8), (78 : UInt8)] }, bs { data := #[] }, bs { data := #[(83 : UInt8), (78 : UInt8)] }, bs {
  data := #[(67 : UInt8)] }, bs { data := #[(76 : UInt8)] }, bs { data := #[(83 : UInt8), (84 : UInt8)] }, bs { data := #[] }, bs { data := #[(79 : UInt8)] }, bs { data := #[(79 : UInt8), (85
  : UInt8)] }] (q58 x) q193 = labelK x.1)
theorem e125 : t125 = Con.vc c_r12_Label GL (mkEnv ty [] [] [] [0, 2, 3, 12]) {} Tryz.f125.ntmps Tryz.f125.results.toList (bodyOf Tryz.f125) := by kernel_rfl
theorem k125 : t125 := by
  unfold t125
  delta q1 q52 q452 q192 q56 q58 q193 wiZ
  rintro ⟨k, _⟩ hx hp
  try dsimp +instances only [dft_int, dft_sl, dft_str]
  simp only [true_and, and_true, eq_self_iff_true, implies_true, reduceCtorEq, false_implies, true_implies, decide_eq_true_eq, decide_eq_false_iff_not, beq_self_eq_true, Bool.not_eq_true', ne_eq, Decidable.not_not, List.nil_append, List.length_singleton, List.length_cons, List.length_nil, Nat.zero_add, Nat.add_zero, Nat.mul_one, and_self, beq_iff_eq, Bool.not_true, Bool.not_false, Bool.not_eq_false', Bool.cond_false_right, Bool.and_eq_true, imp_self, Bool.not_eq_true, Bool.cond_true_left, Bool.or_eq_true]
  rw [bs_nil, show bs { data := #[67, 78] } = [67, 78] by decide, show bs { data := #[83, 78] } = [83, 78] by decide, show bs { data := #[67] } = [67] by decide, show bs { data := #[76] } = [76] by decide, show bs { data := #[83, 84] } = [83, 84] by decide, show bs { data := #[79] } = [79] by decide, show bs { data := #[79, 85] } = [79, 85] by decide]
  refine ⟨fun h => (label_out (by omega)).symm, fun h => ?_⟩
  simp only [Bool.or_eq_false_iff, decide_eq_false_iff_not] at h
  exact ⟨⟨by omega, by omega⟩, labels12 (by omega) (by omega)⟩
theorem h125 : c_r12_Label.ok Tryz.prog GL 125 := con_ok (H := {}) (mkEnv_ok (gl := GL) (l := []) (q := []) (d := []) _ tyOk (by kernel_rfl) trivial trivial trivial) (by kernel_rfl) (by kernel_rfl) (Eq.mp e125 k125)
def t107 : Prop :=
  ∀ (x : q22), (q181 x) -> List.length x.1.2 <= q153 -> List.length [SV.dat q183 x.1.1, SV.dat Kd.str x.1.2] <= q89 /\ True /\ (∀ (y : q6), (q88 y) -> y.1 = labelK x.1.1 -> (q182 y) /\ (q179
  y) /\ (q179 y) /\ (q179 y) /\ (q180 y) /\ ((q466 y x) = false -> True) /\ (q199 y x) /\ (q199 y x) /\ (q199 y x) /\ ((q466 y x) = false -> ((q466 y x) == false) = true) /\ ((q203 y x) =
  false -> True) /\ ((q203 y x) = false -> (q202 y x) = true /\ True) /\ ((q203 y x) = false -> (q202 y x) = true /\ List.length x.1.2 <= q103 /\ (∀ (y : q4), (q67 y) -> y.1 = mayD q90 x.1.2
  -> ((!y.1) = true -> false = mayA x.1) /\ ((!y.1) = false -> (decide (x.1.1 = (5 : Int)) = true -> List.length x.1.2 <= q103 /\ (∀ (y : q4), (q67 y) -> y.1 = mayD (19 : Int) x.1.2 -> y.1 =
  mayA x.1) /\ True) /\ (decide (x.1.1 = (5 : Int)) = false -> (decide (x.1.1 = (6 : Int)) = true -> (decide (q469 x) = true -> True) /\ (q206 x) /\ (decide (q469 x) = true -> (decide (q469
  x) == true) = true /\ (q56 <= q56 /\ q56 < (lnZ x.1.2)) /\ True) /\ (q206 x) /\ (decide (q469 x) = true -> (decide (q469 x) == true) = true) /\ ((q205 x) = true -> True) /\ (q198 x) /\
  ((q205 x) = true -> (q204 x) = true /\ (q56 <= q56 /\ q56 < (lnZ x.1.2)) /\ True) /\ (q198 x) /\ ((q205 x) = true -> (q204 x) = true) /\ ((q201 x) = true -> True) /\ (q195 x) /\ ((q201 x) =
  true -> (q200 x) = true /\ (q56 <= q92 /\ q92 < (lnZ x.1.2)) /\ True) /\ (q195 x) /\ ((q201 x) = true -> (q200 x) = true) /\ ((q197 x) = true -> True) /\ (q194 x) /\ ((q197 x) = true ->
  (q196 x) = true /\ (q56 <= q92 /\ q92 < (lnZ x.1.2)) /\ True) /\ (q194 x) /\ ((q197 x) = true -> (q196 x) = true) /\ (bif bif bif bif decide (q469 x) then decide (q467 x) else false then
  decide (q468 x) else false then decide (q555 <= List.getD x.1.2 q556 q557) else false then decide (List.getD x.1.2 q59 q56 <= (90 : Int)) else false) = mayA x.1) /\ (decide (x.1.1 = (6 :
  Int)) = false -> true = mayA x.1)))) /\ True) /\ ((q203 y x) = !false -> false = mayA x.1)) /\ True
theorem e107 : t107 = Con.vc c_r12_MayAttr GL (mkEnv ty [(125, conSem c_r12_Label), (110, conSem c_r05_May)] [] [] [0, 1, 2, 24, 27, 33]) {} Tryz.f107.ntmps Tryz.f107.results.toList (bodyOf Tryz.f107) := by kernel_rfl
theorem k107 : t107 := by
  unfold t107
  delta q22 q181 q153 q183 q89 q6 q88 q182 q179 q180 q466 q199 q203 q202 q103 q4 q67 q90 q469 q206 q56 lnZ q205 q198 q204 q201 q195 q200 q92 q197 q194 q196 q467 q468 q555 q556 q557 q59 q489 wsZ q509 q491 q455 wbZ q517 q516 q515 q565 q566
  rintro ⟨⟨k, v⟩, _⟩ hx hp
  have hp : v.length ≤ 100000000 := hp
  try dsimp +instances only [dft_int, dft_sl, dft_str]
  simp only [true_and, and_true, eq_self_iff_true, implies_true, reduceCtorEq, false_implies, true_implies, decide_eq_true_eq, decide_eq_false_iff_not, beq_self_eq_true, Bool.not_eq_true', ne_eq, Decidable.not_not, List.nil_append, List.length_singleton, List.length_cons, List.length_nil, Nat.zero_add, Nat.add_zero, Nat.mul_one, and_self, beq_iff_eq, Bool.not_true, Bool.not_false, Bool.not_eq_false', Bool.cond_false_right, Bool.and_eq_true, imp_self, Bool.not_eq_true, Bool.cond_true_left, Bool.or_eq_true]
  rw [bs_nil]
  refine ⟨by decide, ?_⟩
  rintro ⟨a, _⟩ _ ea
  simp only at ea ⊢
  subst ea
  have hv : v = [] ↔ v.length = 0 := ⟨fun h => by rw [h]; rfl, List.eq_nil_of_length_eq_zero⟩
  simp only [Bool.or_eq_false_iff, decide_eq_false_iff_not]
  refine ⟨fun h => ⟨h, by omega, ?_⟩, fun h => ?_⟩
  . have hM : mayA (k, v) = (mayD 12 v && (if k = 6 then capsD v && mayD 19 v else if k = 5 then mayD 19 v else true)) := by
      rw [mayA, decide_eq_true ⟨h.1.1, fun e => h.1.2 (by rw [hv.1 e]; decide), by simp only; omega⟩]; rfl
    rintro ⟨b, _⟩ _ eb
    simp only at eb ⊢
    rw [hM, ← eb]
    refine ⟨fun hb => by rw [hb]; rfl, fun hb => ?_⟩
    rw [hb]
    refine ⟨fun hk => ⟨by omega, ?_⟩, fun hk => ⟨fun hk6 => ⟨fun h => ⟨h, by decide, by omega⟩, fun h => ⟨h, by decide, by omega⟩, fun h => ⟨h, by decide, by omega⟩, fun h => ⟨h, by decide, by omega⟩, ?_⟩, fun hk6 => by rw [if_neg hk6, if_neg hk]; rfl⟩⟩
    . rintro ⟨d, _⟩ _ ed
      simp only at ed ⊢
      rw [if_neg (by omega), if_pos hk, ed]; rfl
    . rw [if_pos hk6, caps_prints v, Bool.true_and, Bool.eq_iff_iff, capsD]
      simp only [Bool.and_eq_true, decide_eq_true_eq]
      omega
  . have key : ¬ (labelK k ≠ [] ∧ v ≠ [] ∧ v.length ≤ 64) := by
      rintro ⟨h1, h2, h3⟩
      rcases h with (h | h) | h
      . exact h1 h
      . exact h2 (hv.2 (by omega))
      . omega
    rw [mayA]
    simp only
    rw [decide_eq_false key]; rfl
theorem h107 : c_r12_MayAttr.ok Tryz.prog GL 107 := con_ok (H := {}) (mkEnv_ok (gl := GL) (l := [(125, conSem c_r12_Label), (110, conSem c_r05_May)]) (q := []) (d := []) _ tyOk (by kernel_rfl) ⟨h125.call, h110.call, trivial⟩ trivial trivial) (by kernel_rfl) (by kernel_rfl) (Eq.mp e107 k107)
def t92 : Prop :=
  ∀ (x : q23), (q207 x) -> (List.length x.1 <= q103 /\ ∀ (a : q21), a ∈ x.1 -> List.length a.2 <= q153) -> ∃ (I : q8), ∃ (μ : q9), (x.1 = x.1 /\ I (q56, false, ()) ()) /\ ∀ (y : q10) (z :
  Unit), (q102 y) -> True -> I y z -> (decide (y.1 < (lnZ x.1)) = true -> (q56 <= y.1 /\ y.1 < (lnZ x.1)) /\ List.length (List.getD x.1 (q142 y) q470).2 <= q153 /\ (∀ (y_1 : q4), (q67 y_1) ->
  y_1.1 = mayA (List.getD x.1 (q142 y) q470) -> ((!y_1.1) = true -> false = mayN x.1) /\ ((!y_1.1) = false -> x.1 = x.1 /\ I (wrZ (q104 y), y.2.1, ()) () /\ μ (wrZ (q104 y), y.2.1, ()) () < μ
  y z)) /\ True) /\ (decide (y.1 < (lnZ x.1)) = false -> decide ((lnZ x.1) <= (16 : Int)) = mayN x.1)
theorem e92 : t92 = Con.vc c_r12_May GL (mkEnv ty [(107, conSem c_r12_MayAttr)] [] [] [0, 2, 3, 7, 15]) {} Tryz.f92.ntmps Tryz.f92.results.toList (bodyOf Tryz.f92) := by kernel_rfl
theorem k92 : t92 := by
  unfold t92
  delta q23 q207 q103 q21 q153 q8 q9 q56 q10 q102 lnZ q142 q470 q4 q67 wrZ q104 q508 wiZ wbZ q572 q491
  rintro ⟨l, _⟩ hx hp
  obtain ⟨h1, h2⟩ := hp
  simp only at h1 h2
  try dsimp +instances only [dft_int, dft_sl, dft_str]
  simp only [true_and, and_true, eq_self_iff_true, implies_true, reduceCtorEq, false_implies, true_implies, decide_eq_true_eq, decide_eq_false_iff_not, beq_self_eq_true, Bool.not_eq_true', ne_eq, Decidable.not_not, List.nil_append, List.length_singleton, List.length_cons, List.length_nil, Nat.zero_add, Nat.add_zero, Nat.mul_one, and_self, beq_iff_eq, Bool.not_true, Bool.not_false, Bool.not_eq_false', Bool.cond_false_right, Bool.and_eq_true, imp_self, Bool.not_eq_true, Bool.cond_true_left, Bool.or_eq_true]
  simp only [adft_eq3]
  refine ⟨fun y _ => 0 ≤ y.1 ∧ y.1 ≤ l.length ∧ ∀ j, j < y.1.toNat → mayA (l.getD j adft) = true, fun y _ => ((l.length : Int) - y.1).toNat, ⟨Int.le_refl 0, by simp only; omega, fun j hj => by simp at hj⟩, ?_⟩
  rintro ⟨i, b, _⟩ _ _ ⟨i0, i1, i2⟩
  simp only at i0 i1 i2 ⊢
  refine ⟨fun hlt => ⟨⟨i0, hlt⟩, h2 _ (mem_getD adft l _ (by omega)), ?_⟩, fun hge => ?_⟩
  . rintro ⟨c, _⟩ _ ec
    simp only at ec ⊢
    rw [wrapK (i + 1) (by omega) (by omega)]
    refine ⟨fun hc => ?_, fun hc => ⟨⟨by omega, by omega, fun j hj => ?_⟩, by omega⟩⟩
    . rw [mayN, all_notA adft _ _ i.toNat (by omega) (ec.symm.trans hc), Bool.and_false]
    by_cases hji : j < i.toNat
    . exact i2 j hji
    . rw [show j = i.toNat by omega]; exact ec.symm.trans hc
  . rw [mayN, all_getA adft _ _ (fun j hj => i2 j (by omega)), Bool.and_true]
    exact decide_eq_decide.2 (by omega)
theorem h92 : c_r12_May.ok Tryz.prog GL 92 := con_ok (H := {}) (mkEnv_ok (gl := GL) (l := [(107, conSem c_r12_MayAttr)]) (q := []) (d := []) _ tyOk (by kernel_rfl) ⟨h107.call, trivial⟩ trivial trivial) (by kernel_rfl) (by kernel_rfl) (Eq.mp e92 k92)
end Go.Proofs.YtgnlcpoeepfdoaaGreatDoor
end
