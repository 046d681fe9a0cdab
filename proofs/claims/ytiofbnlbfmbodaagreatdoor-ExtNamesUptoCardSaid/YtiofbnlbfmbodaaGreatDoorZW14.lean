/- Texts of a verified walk, led together: Ext3A, Ext3W. -/
import Derived.Test.YtiofbnlbfmbodaaGreatDoorZW13
import Derived.Test.YtiofbnlbfmbodaaGreatDoorZV20
set_option linter.unusedVariables false
set_option linter.unusedSimpArgs false
section
namespace Go.Proofs.YtiofbnlbfmbodaaGreatDoor
open Go Go.Vc Go.Pl Go.Proofs
def c_slices_Index_int_int : Con := { args := [.dat (.sl I64), .dat I64], res := [.dat I64], pre := fun _ => True, post := fun x y => y.1 = idxB x.1 x.2.1 }
def c_slices_Contains_int_int : Con := { args := [.dat (.sl I64), .dat I64], res := [.dat .bool], pre := fun _ => True, post := fun x y => y.1 = decide (x.2.1 ∈ x.1) }
def c_r03_Next : Con := { args := [.dat BY, .dat I64], res := [.dat I64, .dat I64, .dat I64], pre := fun x => 0 ≤ x.2.1, post := fun x y => NextD x.1 x.2.1 = (y.1, y.2.1, y.2.2.1) }
def c_r03_Decode : Con := { args := [.dat BY], res := [.own 3 I64, .dat I64], pre := fun _ => True, post := fun x y => (y.1, y.2.1) = DecD x.1 }
def c_ext_unlike : Con := { args := [.dat (.sl I64), .dat I64, .dat I64], res := [.dat .bool], pre := fun _ => True, post := fun x y => y.1 = unlikeK x.1 x.2.1 x.2.2.1 }
def c_ext_last : Con := { args := [.dat BY, .dat (.sl I64)], res := [.dat I64], pre := fun _ => True, post := fun x y => lastO x.1 x.2.1 = (y.1, true), pan := true, pt := 152, pk := .unit, ppost := fun x _ => (lastO x.1 x.2.1).2 = false }
def c_ext_tag : Con := { args := [.dat I64], res := [.dat I64], pre := fun x => 0 ≤ x.1 ∧ x.1 ≤ 1000, post := fun x y => y.1 = tagG x.1 }
def c_ext_general : Con := { args := [.dat ET], res := [.dat I64, .dat .str], pre := fun x => isTagD x.1.1 = true, post := fun x y => okE x.1 = true ∧ (y.1, y.2.1) = genE x.1, pan := true, pt := 152, pk := .unit, ppost := fun x _ => okE x.1 = false }
def c_ext_Purposes : Con := { args := [.dat (.sl I64)], res := [.own 5 U8, .dat I64], pre := fun _ => True, post := fun x y => (y.1, y.2.1) = PurposesD x.1 }
def c_ext_ToPurposes : Con := { args := [.dat BY], res := [.own 3 I64, .dat I64], pre := fun x => lenB x.1 ≤ LIM, post := fun x y => (y.1, y.2.1) = ToPurposesD x.1 }
def c_ext_Names : Con := { args := [.dat (.sl GK)], res := [.own 5 U8, .dat I64], pre := fun x => lenG x.1 ≤ LIM, post := fun x y => (y.1, y.2.1) = NamesD x.1 }
def c_ext_ToNames : Con := { args := [.dat BY], res := [.own 59 GK, .dat I64], pre := fun x => lenB x.1 ≤ LIM, post := fun x y => (y.1, y.2.1) = ToNamesD x.1 }
def c_r15_Inside : Con := { args := [.dat BY], res := [.own 105 ET], pre := fun x => lenB x.1 ≤ LIM, post := fun x y => y.1 = insL x.1 }
def c_r15_oid : Con := { args := [.dat (.sl I64), .dat I64], res := [.own 5 U8], pre := fun x => lenI x.1 ≤ 19, post := fun x y => y.1 = putB (6, (EncO (x.1 ++ [x.2.1])).1) }
def c_r15_last : Con := { args := [.dat BY], res := [.dat I64], pre := fun _ => True, post := fun x y => y.1 = lastL x.1 }
def c_r15_unlike : Con := { args := [.dat (.sl I64), .dat I64, .dat I64], res := [.dat .bool], pre := fun _ => True, post := fun x y => y.1 = unlikeK x.1 x.2.1 x.2.2.1 }
def c_r15_Purposes : Con := { args := [.dat (.sl I64)], res := [.own 5 U8, .dat I64], pre := fun _ => True, post := fun x y => (y.1, y.2.1) = PurposesD x.1 }
def c_r15_ToPurposes : Con := { args := [.dat BY], res := [.dat (.sl I64), .dat I64], pre := fun x => lenB x.1 ≤ LIM, post := fun x y => (y.1, y.2.1) = ToPurposesD x.1 }
def c_r15_general : Con := { args := [.dat I64, .dat .str], res := [.own 5 U8], pre := fun x => 0 ≤ x.1 ∧ x.1 ≤ 31 ∧ lenB x.2.1 ≤ LIM, post := fun x y => y.1 = genB (x.1, x.2.1) }
def c_r15_Names : Con := { args := [.dat (.sl GK)], res := [.own 5 U8, .dat I64], pre := fun x => lenG x.1 ≤ LIM, post := fun x y => (y.1, y.2.1) = NamesD x.1 }
def c_r15_ToNames : Con := { args := [.dat BY], res := [.dat (.sl GK), .dat I64], pre := fun x => lenB x.1 ≤ LIM, post := fun x y => (y.1, y.2.1) = ToNamesD x.1 }
end Go.Proofs.YtiofbnlbfmbodaaGreatDoor
end
section
namespace Go.Proofs.YtiofbnlbfmbodaaGreatDoor
open Go Go.Vc Go.Pl Go.Proofs
set_option maxHeartbeats 2000000
set_option linter.unusedVariables false
set_option linter.unusedSimpArgs false
abbrev q334 (p0 : Int × Int × Int × Int × Int × Unit) (p1 : q0) := (q397 < wrZ (wrZ (q422 * p0.1) + Int.tmod (wrZ (List.getD p1.1 (Int.toNat p0.2.2.2.2.1) q423)) q422))
abbrev q335 (p0 : Int × Int × Int × Int × Int × Unit) (p1 : q0) := (wrZ (q422 * p0.1) + Int.tmod (wrZ (List.getD p1.1 (Int.toNat p0.2.2.2.2.1) q423)) q422)
abbrev q416 (p0 : List Int × Int × Int × Unit) (p1 : q9) := (List.getD p0.1 (q475 p1) q485 < p0.2.1)
abbrev q461 (p0 : List Int × Int × Int × Unit) (p1 : q9) := (decide (List.getD p0.1 (q475 p1) q485 < p0.2.1) == false)
abbrev q336 (p0 : List Int × Int × Int × Unit) (p1 : q9) := (decide (q416 p0 p1) = false -> (q461 p0 p1) = true /\ (q461 p0 p1) = true /\ True)
abbrev q462 (p0 : List Int × Int × Int × Unit) (p1 : q9) := (bif decide (List.getD p0.1 (q475 p1) q485 < p0.2.1) then true else decide (p0.2.2.1 < List.getD p0.1 (q475 p1) q485))
abbrev q337 (p0 : List Int × Int × Int × Unit) (p1 : q9) := ((q462 p0 p1) = false -> True)
abbrev q338 (p0 : List Int × Int × Int × Unit) (p1 : q9) := ((q462 p0 p1) == false)
abbrev q339 (p0 : List Int × Int × Int × Unit) (p1 : q9) := (decide (q416 p0 p1) = false -> (q461 p0 p1) = true)
abbrev q340 (p0 : List Int × Int × Int × Unit) (p1 : q9) := (bif decide (q416 p0 p1) then true else decide (p0.2.2.1 < List.getD p0.1 (q475 p1) q444))
abbrev q341 (p0 : List Int × Int × Int × Unit) (p1 : q9) := (decide (q416 p0 p1) = false -> True)
abbrev q342 (p0 : q0) (p1 : q2) := (bif decide (p0.2.1 = q376) then decide ((lnZ p0.1) = wrZ ((lnZ p1.2.1) + q412)) else false)
abbrev q343 (p0 : q0) := (decide (p0.2.1 = q376) = true -> (decide (p0.2.1 = q376) == true) = true /\ True)
abbrev q344 (p0 : q14) := (↑(BitVec.toNat (BitVec.ofInt (64 : Nat) p0.1.1 &&& BitVec.ofInt (64 : Nat) (31 : Int))) : Int)
abbrev q345 (p0 : q5) := (bif decide ((lnZ p0.1) = q376) then true else decide ((16 : Int) < (lnZ p0.1)))
abbrev q346 := (150 : Int)
abbrev q347 (p0 : (List Int × Unit) × Unit × (Int × Unit) × List (Int × List Int) × List Int × List Int × Unit) (p1 : q1) := (List.getD p0.2.2.2.1 (q367 p1) q407)
abbrev q348 (p0 : (List Int × Unit) × Unit × (Int × Unit) × List (Int × List Int) × List Int × List Int × Unit) := (bif decide (q376 < (lnZ p0.2.2.2.2.1)) then decide ((lnZ p0.2.2.2.2.1) <=
  (16 : Int)) else false)
abbrev q349 (p0 : q15) := (Kd.wf q442 p0.1 /\ True)
abbrev q489 := (Kd.dft (Kd.pair (Kd.int IntKind.i64) Kd.str))
abbrev q415 (p0 : q1) (p1 : q15) (p2 : q6) (p3 : List (List Int) × List Int × Unit) (p4 : Int × Int × Unit -> List (List Int) × List Int × Unit -> Prop) (p5 : Int × Int × Unit -> List (List
  Int) × List Int × Unit -> Nat) := ((isTagD p0.1 = true /\ lenF [(List.getD p1.1 (Int.toNat p2.1) q489).2] <= (16777215 : Nat)) /\ (∀ (y_3 : q5), (wyZ y_3.1 /\ True) -> y_3.1 = putB (p0.1,
  List.flatten [(List.getD p1.1 (Int.toNat p2.1) q489).2]) -> ((q482 < q468 /\ (List.length p3.1 + List.length [y_3.1]) * (24 : Nat) <= q477 /\ List.length p3.1 + List.length [y_3.1] <= q476
  /\ (lnZ p1.1) = (lnZ p1.1) /\ p1.1 = p1.1 /\ Value.bool false = Value.bool false /\ p1.1 = p1.1 /\ p4 (wrZ (p2.1 + (1 : Int)), p2.2.1, ()) (p3.1 ++ [y_3.1], p3.2.1, ()) /\ p5 (wrZ (p2.1 +
  (1 : Int)), p2.2.1, ()) (p3.1 ++ [y_3.1], p3.2.1, ()) < p5 p2 p3) /\ True) /\ True) /\ True)
abbrev q350 (p0 : q1) (p1 : q15) (p2 : q6) (p3 : List (List Int) × List Int × Unit) (p4 : Int × Int × Unit -> List (List Int) × List Int × Unit -> Prop) (p5 : Int × Int × Unit -> List (List
  Int) × List Int × Unit -> Nat) := ((q415 p0 p1 p2 p3 p4 p5) /\ True)
abbrev q463 (p0 : q15) (p1 : q6) := (List.getD p0.1 (Int.toNat p1.1) q489)
abbrev q351 (p0 : q15) (p1 : q6) := (q376 <= (q463 p0 p1).1 /\ (q463 p0 p1).1 <= (1000 : Int))
abbrev q352 (p0 : q15) (p1 : q6) := (List.getD p0.1 (Int.toNat p1.1) q382)
abbrev q353 (p0 : (List Int × Unit) × Unit × (Int × Unit) × List (Int × List Int) × List (Int × List Int) × List (Int × List Int) × Unit) (p1 : q1) := (List.getD p0.2.2.2.1 (q367 p1) q407)
abbrev q354 (p0 : List Int × Int × Int × Unit) (p1 : q9) := (decide (q416 p0 p1) == false)
abbrev q355 (p0 : q5) := (bif decide ((lnZ p0.1) < q412) then true else decide ((16 : Int) < (lnZ p0.1)))
abbrev q356 (p0 : q15) (p1 : q6) (p2 : q2) (p3 : Int × Int × Unit -> List Int × List Int × Unit -> Prop) (p4 : Int × Int × Unit -> List Int × List Int × Unit -> Nat) := ((((q376 <= (q463 p0
  p1).1 /\ (q463 p0 p1).1 <= (31 : Int) /\ lenB (q463 p0 p1).2 <= (2000000 : Nat)) /\ (∀ (y_2 : q5), (wyZ y_2.1 /\ True) -> y_2.1 = genB ((q463 p0 p1).1, (q463 p0 p1).2) -> (q391 < q468 /\
  (List.length p2.1 + List.length y_2.1) * q468 <= q477 /\ List.length p2.1 + List.length y_2.1 <= q476 /\ Value.bool false = Value.bool false /\ p0.1 = p0.1 /\ p3 (wrZ (p1.1 + q412), p1.2.1,
  ()) (p2.1 ++ y_2.1, p2.2.1, ()) /\ p4 (wrZ (p1.1 + q412), p1.2.1, ()) (p2.1 ++ y_2.1, p2.2.1, ()) < p4 p1 p2) /\ True) /\ True) /\ True) /\ True)
abbrev q501 := (Kd.dft (Kd.pair (Kd.int IntKind.i64) q506))
abbrev q490 (p0 : q15) (p1 : q15) (p2 : q1) := (List.length p0.1 + List.length [(Int.tmod (List.getD p1.1 (Int.toNat p2.1) q501).1 (32 : Int), (List.getD p1.1 (Int.toNat p2.1) q501).2)])
abbrev q472 (p0 : q15) (p1 : q1) := (List.getD p0.1 (Int.toNat p1.1) q501)
abbrev q464 (p0 : q15) (p1 : q15) (p2 : q1) (p3 : q5) (p4 : Int × Unit -> List (Int × List Int) × Unit -> Prop) (p5 : Int × Unit -> List (Int × List Int) × Unit -> Nat) := (((q482 < (2 :
  Nat) /\ (q490 p0 p1 p2) * (24 : Nat) <= q477 /\ List.length p0.1 + List.length [(Int.tmod (q472 p1 p2).1 (32 : Int), (q472 p1 p2).2)] <= q476 /\ q469 = q469 /\ Value.slice none q482 q482 =
  Value.slice none q482 q482 /\ p3.1 = p3.1 /\ p1.1 = p1.1 /\ p4 (wrZ (p2.1 + (1 : Int)), ()) (p0.1 ++ [(Int.tmod (q472 p1 p2).1 (32 : Int), (q472 p1 p2).2)], ()) /\ p5 (wrZ (p2.1 + (1 :
  Int)), ()) (p0.1 ++ [(Int.tmod (q472 p1 p2).1 (32 : Int), (q472 p1 p2).2)], ()) < p5 p2 p0) /\ True) /\ True)
abbrev q357 (p0 : q15) (p1 : q15) (p2 : q1) (p3 : q5) (p4 : Int × Unit -> List (Int × List Int) × Unit -> Prop) (p5 : Int × Unit -> List (Int × List Int) × Unit -> Nat) := (((32 : Int) ≠
  q376 /\ ((q464 p0 p1 p2 p3 p4 p5) /\ True) /\ True) /\ (((32 : Int) ≠ q376 /\ (q464 p0 p1 p2 p3 p4 p5) /\ True) /\ True) /\ True)
abbrev q417 (p0 : q15) (p1 : q15) (p2 : q1) (p3 : q5) (p4 : Int × Unit -> List q189 × Unit -> Prop) (p5 : Int × Unit -> List q189 × Unit -> Nat) := (((q482 < (2 : Nat) /\ (q490 p0 p1 p2) *
  (24 : Nat) <= q477 /\ List.length p0.1 + List.length [(Int.tmod (q472 p1 p2).1 (32 : Int), (q472 p1 p2).2)] <= q476 /\ q469 = q469 /\ Value.slice none q482 q482 = Value.slice none q482 q482
  /\ p3.1 = p3.1 /\ p1.1 = p1.1 /\ p4 (wrZ (p2.1 + (1 : Int)), ()) (p0.1 ++ [(Int.tmod (q472 p1 p2).1 (32 : Int), (q472 p1 p2).2)], ()) /\ p5 (wrZ (p2.1 + (1 : Int)), ()) (p0.1 ++ [(Int.tmod
  (q472 p1 p2).1 (32 : Int), (q472 p1 p2).2)], ()) < p5 p2 p0) /\ True) /\ True)
def t149 : Prop :=
  ∀ (x : q0), (q266 x) -> True -> ∃ (I : q10), ∃ (μ : q11), ((lnZ x.1) = (lnZ x.1) /\ x.1 = x.1 /\ x.2.1 = x.2.1 /\ I (q34, q34, ()) ()) /\ ∀ (y : q6) (z : Unit), (q89 y) -> True -> I y z ->
  (decide (y.1 < (lnZ x.1)) = true -> (q34 <= y.1 /\ y.1 < (lnZ x.1)) /\ (decide (x.2.1 = List.getD x.1 (Int.toNat y.1) q215) = true -> y.1 = idxB x.1 x.2.1) /\ (decide (x.2.1 = List.getD x.1
  (Int.toNat y.1) q215) = false -> (lnZ x.1) = (lnZ x.1) /\ x.1 = x.1 /\ x.2.1 = x.2.1 /\ I (wrZ (q90 y), y.2.1, ()) () /\ μ (wrZ (q90 y), y.2.1, ()) () < μ y z)) /\ (decide (y.1 < (lnZ x.1))
  = false -> (-1 : Int) = idxB x.1 x.2.1)
theorem e149 : t149 = Con.vc c_slices_Index_int_int GL (mkEnv ty [] [] [] [0, 1, 4, 5, 7, 8, 9, 16]) {} Tryz.f149.ntmps Tryz.f149.results.toList (bodyOf Tryz.f149) := by kernel_rfl
theorem k149 : t149 := by
  unfold t149
  delta q0 q266 q10 q11 lnZ q34 q6 q89 q215 wrZ q90 q443 wiZ q483 q412
  rintro ⟨l, c, _⟩ hx hp
  have hl : l.length ≤ 9223372036854775807 := hx.1.1
  try dsimp +instances only [dft_int, dft_sl, dft_str]
  simp only [true_and, and_true, eq_self_iff_true, implies_true, reduceCtorEq, false_implies, true_implies, decide_eq_true_eq, decide_eq_false_iff_not, beq_self_eq_true, Bool.not_eq_true', ne_eq, Decidable.not_not, List.nil_append, List.length_singleton, List.length_cons, List.length_nil, Nat.zero_add, Nat.add_zero, Nat.mul_one, and_self, beq_iff_eq, Bool.not_true, Bool.not_false, Bool.not_eq_false', Bool.cond_false_right, Bool.and_eq_true, imp_self, Bool.not_eq_true, Bool.cond_true_left, Bool.or_eq_true]
  refine ⟨fun y _ => 0 ≤ y.1 ∧ y.1 ≤ l.length ∧ c ∉ l.take y.1.toNat, fun y _ => ((l.length : Int) - y.1).toNat, ⟨Int.le_refl 0, by simp only; omega, by simp⟩, ?_⟩
  rintro ⟨i, r, _⟩ _ _ ⟨h0, h1, h2⟩
  simp only at h0 h1 h2 ⊢
  refine ⟨fun hi => ⟨⟨h0, hi⟩, fun h => ?_, fun h => ?_⟩, fun hi => ?_⟩
  . rw [idxB_at (i := i.toNat) (by omega) h2 h.symm]; omega
  . rw [wrapM (i + 1) (by omega) (by omega)]
    refine ⟨⟨by omega, by omega, ?_⟩, by omega⟩
    rw [show (i + 1).toNat = i.toNat + 1 by omega, ntake_snoc l i.toNat (by omega)]
    intro hm
    rcases List.mem_append.1 hm with hm | hm
    . exact h2 hm
    . exact h (List.mem_singleton.1 hm)
  . rw [take_all (by omega)] at h2
    exact (idxB_no h2).symm
theorem h149 : c_slices_Index_int_int.ok Tryz.prog GL 149 := con_ok (H := {}) (mkEnv_ok (gl := GL) (l := []) (q := []) (d := []) _ tyOk (by kernel_rfl) trivial trivial trivial) (by kernel_rfl) (by kernel_rfl) (Eq.mp e149 k149)
def t107 : Prop :=
  ∀ (x : q0), (q266 x) -> True -> True /\ (∀ (y : q1), (q30 y) -> y.1 = idxB x.1 x.2.1 -> decide (q33 y) = decide (x.2.1 ∈ x.1)) /\ True
theorem e107 : t107 = Con.vc c_slices_Contains_int_int GL (mkEnv ty [(149, conSem c_slices_Index_int_int)] [] [] [0, 1, 4]) {} Tryz.f107.ntmps Tryz.f107.results.toList (bodyOf Tryz.f107) := by kernel_rfl
theorem k107 : t107 := by
  unfold t107
  delta q0 q266 q1 q30 q33 q443 wiZ q376 q483
  rintro ⟨l, c, _⟩ hx hp
  try dsimp +instances only [dft_int, dft_sl, dft_str]
  simp only [true_and, and_true, eq_self_iff_true, implies_true, reduceCtorEq, false_implies, true_implies, decide_eq_true_eq, decide_eq_false_iff_not, beq_self_eq_true, Bool.not_eq_true', ne_eq, Decidable.not_not, List.nil_append, List.length_singleton, List.length_cons, List.length_nil, Nat.zero_add, Nat.add_zero, Nat.mul_one, and_self, beq_iff_eq, Bool.not_true, Bool.not_false, Bool.not_eq_false', Bool.cond_false_right, Bool.and_eq_true, imp_self, Bool.not_eq_true, Bool.cond_true_left, Bool.or_eq_true]
  rintro ⟨y, _⟩ _ e
  simp only at e ⊢
  subst e
  exact decide_eq_decide.2 (idxB_mem l c)
theorem h107 : c_slices_Contains_int_int.ok Tryz.prog GL 107 := con_ok (H := {}) (mkEnv_ok (gl := GL) (l := [(149, conSem c_slices_Index_int_int)]) (q := []) (d := []) _ tyOk (by kernel_rfl) ⟨h149.call, trivial⟩ trivial trivial) (by kernel_rfl) (by kernel_rfl) (Eq.mp e107 k107)
def t156 : Prop :=
  ∀ (x : q0), (q218 x) -> q34 <= x.2.1 -> (decide (x.2.1 < (lnZ x.1)) = true -> True) /\ (decide (x.2.1 < (lnZ x.1)) = true -> True) /\ (q227 x) /\ (q229 x) /\ (q229 x) /\ (decide (x.2.1 <
  (lnZ x.1)) = true -> (q400 x) = true) /\ ((q228 x) = true -> NextD x.1 x.2.1 = (q34, q34, (30 : Int))) /\ ((q228 x) = false -> ∃ (I : Int × Int × Int × Int × Int × Unit -> Unit -> Prop), ∃
  (μ : Int × Int × Int × Int × Int × Unit -> Unit -> Nat), (Value.bool false = Value.bool false /\ x.1 = x.1 /\ I (q34, q34, q34, q34, x.2.1, ()) ()) /\ ∀ (y : Int × Int × Int × Int × Int ×
  Unit) (z : Unit), (wiZ y.1 /\ wiZ y.2.1 /\ wiZ y.2.2.1 /\ wiZ y.2.2.2.1 /\ wiZ y.2.2.2.2.1 /\ True) -> True -> I y z -> (decide (y.2.2.2.2.1 < (lnZ x.1)) = true -> (q34 <= y.2.2.2.2.1 /\
  y.2.2.2.2.1 < (lnZ x.1)) /\ q91 ≠ q34 /\ (decide (q334 y x) = true -> NextD x.1 x.2.1 = (q34, q34, (31 : Int))) /\ (decide (q334 y x) = false -> (q34 <= wrZ (wrZ (y.2.2.2.2.1 + q66) - q66)
  /\ wrZ (wrZ (y.2.2.2.2.1 + q66) - q66) < (lnZ x.1)) /\ (decide (List.getD x.1 (Int.toNat (wrZ (wrZ (y.2.2.2.2.1 + q66) - q66))) q202 < q91) = true -> NextD x.1 x.2.1 = (wrZ (q335 y x), wrZ
  (y.2.2.2.2.1 + q66), q34)) /\ (decide (List.getD x.1 (Int.toNat (wrZ (wrZ (y.2.2.2.2.1 + q66) - q66))) q202 < q91) = false -> Value.bool false = Value.bool false /\ x.1 = x.1 /\ I (wrZ
  (q335 y x), y.2.1, y.2.2.1, y.2.2.2.1, wrZ (y.2.2.2.2.1 + q66), ()) () /\ μ (wrZ (q335 y x), y.2.1, y.2.2.1, y.2.2.2.1, wrZ (y.2.2.2.2.1 + q66), ()) () < μ y z))) /\ (decide (y.2.2.2.2.1 <
  (lnZ x.1)) = false -> NextD x.1 x.2.1 = (q34, q34, (10 : Int))))
theorem e156 : t156 = Con.vc c_r03_Next GL (mkEnv ty [] [] [] [0, 1, 4, 5, 6, 7, 18, 22, 33, 41]) {} Tryz.f156.ntmps Tryz.f156.results.toList (bodyOf Tryz.f156) := by kernel_rfl
theorem k156 : t156 := by
  unfold t156
  delta q0 q218 q34 lnZ q227 q229 q400 q228 wiZ q91 q334 wrZ q66 q202 q335 wyZ q376 q423 q422 q397 q474
  rintro ⟨l, i, _⟩ hx hp
  have hp : 0 ≤ i := hp
  have hwl : l.length ≤ 9223372036854775807 := hx.1.1
  have hwf : Bys l := sl_bys hx.1
  try dsimp +instances only [dft_int, dft_sl, dft_str]
  simp only [true_and, and_true, eq_self_iff_true, implies_true, reduceCtorEq, false_implies, true_implies, decide_eq_true_eq, decide_eq_false_iff_not, beq_self_eq_true, Bool.not_eq_true', ne_eq, Decidable.not_not, List.nil_append, List.length_singleton, List.length_cons, List.length_nil, Nat.zero_add, Nat.add_zero, Nat.mul_one, and_self, beq_iff_eq, Bool.not_true, Bool.not_false, Bool.not_eq_false', Bool.cond_false_right, Bool.and_eq_true, imp_self, Bool.not_eq_true, Bool.cond_true_left, Bool.or_eq_true]
  refine ⟨fun h => ⟨h, h, hp, h⟩, fun h => next_30 l i h.2, fun h => ?_⟩
  have hne : l.getD i.toNat 0 ≠ 128 := fun e => by
    have hlt : i < l.length := by
      by_cases hi : i.toNat < l.length
      . omega
      . rw [List.getD_eq_getElem?_getD, List.getElem?_eq_none (by omega)] at e
        cases e
    rcases Bool.and_eq_false_iff.1 h with h | h
    . exact of_decide_eq_false h hlt
    . exact of_decide_eq_false h e
  have hN := next_go l i hne
  rw [hN]
  refine ⟨fun y _ => 0 ≤ y.1 ∧ y.1 ≤ 2147483647 ∧ 0 ≤ y.2.2.2.2.1 ∧ nextR (l.drop i.toNat) 0 i = nextR (l.drop y.2.2.2.2.1.toNat) y.1 y.2.2.2.2.1, fun y _ => ((l.length : Int) - y.2.2.2.2.1).toNat, ⟨by omega, by omega, hp, rfl⟩, ?_⟩
  rintro ⟨v, r1, r2, r3, p, _⟩ z _ ⟨h0, h1, h2, h3⟩
  simp only at h0 h1 h2 h3 ⊢
  refine ⟨fun hlt => ?_, fun hge => ?_⟩
  . have hb := bys_get hwf p.toNat
    have hw : IntKind.wrap .i64 (p + 1) = p + 1 := by rw [IntKind.wrap_i64]; omega
    have hw2 : IntKind.wrap .i64 (p + 1 - 1) = p := by rw [wrapM (p + 1 - 1) (by omega) (by omega)]; omega
    have hor : IntKind.wrap .i64 (IntKind.wrap .i64 (128 * v) + (IntKind.wrap .i64 (l.getD p.toNat 0)).tmod 128) = v * 128 + l.getD p.toNat 0 % 128 := by
      rw [wrapK (128 * v) (by omega) (by omega), wrapK (l.getD p.toNat 0) (by omega) (by omega), Int.tmod_eq_emod_of_nonneg hb.1, wrapK _ (by omega) (by omega)]
      omega
    rw [hor, hw, hw2]
    rw [drop_cons l p.toNat (by omega)] at h3
    have e1 : (p + 1).toNat = p.toNat + 1 := by omega
    generalize l.getD p.toNat 0 = b at hb h3 ⊢
    have e : nextR (b :: l.drop (p.toNat + 1)) v p = if 2147483647 < v * 128 + b % 128 then (0, 0, 31) else if b < 128 then (v * 128 + b % 128, p + 1, 0) else nextR (l.drop (p.toNat + 1)) (v * 128 + b % 128) (p + 1) := rfl
    rw [e] at h3
    refine ⟨⟨h2, hlt⟩, by decide, fun hc => by rw [h3, if_pos hc], fun hc => ⟨⟨h2, hlt⟩, fun hd => by rw [h3, if_neg hc, if_pos hd], fun hd => ⟨⟨by omega, by omega, by omega, ?_⟩, by omega⟩⟩⟩
    rw [e1, h3, if_neg hc, if_neg hd]
  . rw [h3, List.drop_of_length_le (by omega)]
    rfl
theorem h156 : c_r03_Next.ok Tryz.prog GL 156 := con_ok (H := {}) (mkEnv_ok (gl := GL) (l := []) (q := []) (d := []) _ tyOk (by kernel_rfl) trivial trivial trivial) (by kernel_rfl) (by kernel_rfl) (Eq.mp e156 k156)
def t115 : Prop :=
  ∀ (x : q5), (q154 x) -> True -> q34 <= q34 /\ (∀ (y : q19), (wiZ y.1 /\ wiZ y.2.1 /\ wiZ y.2.2.1 /\ True) -> NextD x.1 q34 = (y.1, y.2.1, y.2.2.1) -> (decide (y.2.2.1 ≠ q34) = true -> ([],
  y.2.2.1) = DecD x.1) /\ (decide (y.2.2.1 ≠ q34) = false -> ∃ (J : Unit -> List Int × Unit -> Prop), ((decide (y.1 < (40 : Int)) = true -> Value.bool false = Value.bool false /\ y.2.2.1 =
  y.2.2.1 /\ y.2.1 = y.2.1 /\ y.1 = y.1 /\ q34 = q34 /\ Value.slice none q65 q65 = Value.slice none q65 q65 /\ x.1 = x.1 /\ J () ([q34, y.1], ())) /\ (decide (y.1 < (40 : Int)) = false ->
  (decide (y.1 < (80 : Int)) = true -> Value.bool false = Value.bool false /\ y.2.2.1 = y.2.2.1 /\ y.2.1 = y.2.1 /\ y.1 = y.1 /\ q34 = q34 /\ Value.slice none q65 q65 = Value.slice none q65
  q65 /\ x.1 = x.1 /\ J () ([q66, wrZ (y.1 - (40 : Int))], ())) /\ (decide (y.1 < (80 : Int)) = false -> Value.bool false = Value.bool false /\ y.2.2.1 = y.2.2.1 /\ y.2.1 = y.2.1 /\ y.1 = y.1
  /\ q34 = q34 /\ Value.slice none q65 q65 = Value.slice none q65 q65 /\ x.1 = x.1 /\ J () ([q69, wrZ (y.1 - (80 : Int))], ())))) /\ ∀ (u : Unit) (z : q5), True -> (q213 z) -> J u z -> ∃ (I :
  Int × Int × Int × Int × Unit -> List Int × List Int × Unit -> Prop), ∃ (μ : Int × Int × Int × Int × Unit -> List Int × List Int × Unit -> Nat), (Value.bool false = Value.bool false /\ x.1 =
  x.1 /\ I (y.2.2.1, y.2.1, y.1, q34, ()) (z.1, [], ())) /\ ∀ (y : q20) (z : q2), (q181 y) -> (q231 z) -> I y z -> (decide (y.2.1 < (lnZ x.1)) = true -> (decide ((lnZ z.1) = (20 : Int)) =
  true -> ([], (32 : Int)) = DecD x.1) /\ (decide ((lnZ z.1) = (20 : Int)) = false -> q34 <= y.2.1 /\ (∀ (y_1 : q19), (wiZ y_1.1 /\ wiZ y_1.2.1 /\ wiZ y_1.2.2.1 /\ True) -> NextD x.1 y.2.1 =
  (y_1.1, y_1.2.1, y_1.2.2.1) -> (decide (y_1.2.2.1 ≠ q34) = true -> ([], y_1.2.2.1) = DecD x.1) /\ (decide (y_1.2.2.1 ≠ q34) = false -> q65 < q36 /\ (List.length z.1 + List.length [y_1.1]) *
  q369 <= q153 /\ List.length z.1 + List.length [y_1.1] <= q152 /\ Value.bool false = Value.bool false /\ x.1 = x.1 /\ I (y_1.2.2.1, y_1.2.1, y_1.1, y.2.2.2.1, ()) (z.1 ++ [y_1.1], z.2.1, ())
  /\ μ (y_1.2.2.1, y_1.2.1, y_1.1, y.2.2.2.1, ()) (z.1 ++ [y_1.1], z.2.1, ()) < μ y z)) /\ True)) /\ (decide (y.2.1 < (lnZ x.1)) = false -> (z.1, q34) = DecD x.1))) /\ True
theorem e115 : t115 = Con.vc c_r03_Decode GL (mkEnv ty [(156, conSem c_r03_Next)] [] [] [0, 2, 3, 4, 5, 6, 7, 15, 21, 25, 32, 35, 44]) {joins := [9]} Tryz.f115.ntmps Tryz.f115.results.toList (bodyOf Tryz.f115) := by kernel_rfl
theorem k115 : t115 := by
  unfold t115
  delta q5 q154 q34 q19 wiZ q65 q66 wrZ q69 q213 q20 q2 q181 q231 lnZ q36 q369 q153 q152 wyZ q443 q483
  rintro ⟨l, _⟩ hx hp
  have hwf : Bys l := sl_bys hx.1
  try dsimp +instances only [dft_int, dft_sl, dft_str]
  simp only [true_and, and_true, eq_self_iff_true, implies_true, reduceCtorEq, false_implies, true_implies, decide_eq_true_eq, decide_eq_false_iff_not, beq_self_eq_true, Bool.not_eq_true', ne_eq, Decidable.not_not, List.nil_append, List.length_singleton, List.length_cons, List.length_nil, Nat.zero_add, Nat.add_zero, Nat.mul_one, and_self, beq_iff_eq, Bool.not_true, Bool.not_false, Bool.not_eq_false', Bool.cond_false_right, Bool.and_eq_true, imp_self, Bool.not_eq_true, Bool.cond_true_left, Bool.or_eq_true]
  refine ⟨by decide, ?_⟩
  rintro ⟨x, j, c, _⟩ hy e
  simp only at e hy ⊢
  refine ⟨fun h => by rw [DecD, e, if_pos h], fun h => ?_⟩
  subst h
  have hok := next_ok hwf 0 (by decide) (by rw [e])
  rw [e] at hok
  simp only at hok
  have hD : DecD l = decR l l.length (SplitD x) j := by rw [DecD, e, if_neg (by simp)]
  refine ⟨fun _ z => z.1 = SplitD x, ⟨fun h => by rw [SplitD, if_pos h], fun h => ⟨fun h2 => ?_, fun h2 => ?_⟩⟩, ?_⟩
  . rw [SplitD, if_neg h, if_pos h2, wrapK _ (by omega) (by omega)]
  . rw [SplitD, if_neg h, if_neg h2, wrapK _ (by omega) (by omega)]
  rintro u ⟨s, _⟩ _ es
  simp only at es ⊢
  refine ⟨fun y z => 0 ≤ y.2.1 ∧ z.1.length ≤ 20 ∧ ∃ n : Nat, (l.length : Int) - y.2.1 ≤ n ∧ DecD l = decR l n z.1 y.2.1, fun y _ => ((l.length : Int) - y.2.1).toNat, ⟨by show 0 ≤ j; omega, by rw [es, splitD_len]; decide, l.length, by show (l.length : Int) - j ≤ _; omega, by rw [es]; exact hD⟩, ?_⟩
  rintro ⟨c0, i, v, r, _⟩ ⟨acc, r2, _⟩ _ _ ⟨h0, h20, n, hn, hd⟩
  simp only at h0 h20 hn hd ⊢
  refine ⟨fun hlt => ?_, fun hge => ?_⟩
  . obtain ⟨m, rfl⟩ : ∃ m, n = m + 1 := ⟨n - 1, by omega⟩
    rw [dec_step l m acc i hlt] at hd
    refine ⟨fun h => by rw [hd, if_pos (by omega)], fun h => ⟨h0, ?_⟩⟩
    rintro ⟨x', j', c', _⟩ _ e'
    simp only at e' ⊢
    rw [if_neg (by omega), e'] at hd
    refine ⟨fun h1 => by rw [hd, if_pos h1], fun h1 => ?_⟩
    subst h1
    have hok' := next_ok hwf i h0 (by rw [e'])
    rw [e'] at hok'
    simp only at hok'
    rw [if_neg (by simp)] at hd
    exact ⟨by decide, by omega, by omega, ⟨by omega, by simp; omega, m, by omega, hd⟩, by omega⟩
  . rw [hd, dec_end l n acc i hge]
theorem h115 : c_r03_Decode.ok Tryz.prog GL 115 := con_ok (H := {joins := [9]}) (mkEnv_ok (gl := GL) (l := [(156, conSem c_r03_Next)]) (q := []) (d := []) _ tyOk (by kernel_rfl) ⟨h156.call, trivial⟩ trivial trivial) (by kernel_rfl) (by kernel_rfl) (Eq.mp e115 k115)
def t57 : Prop :=
  ∀ (x : List Int × Int × Int × Unit), (Kd.wf q203 x.1 /\ wiZ x.2.1 /\ wiZ x.2.2.1 /\ True) -> True -> ∃ (I : q7), ∃ (μ : q8), ((lnZ x.1) = (lnZ x.1) /\ x.1 = x.1 /\ x.1 = x.1 /\ x.2.1 =
  x.2.1 /\ x.2.2.1 = x.2.2.1 /\ I (q34, false, ()) ()) /\ ∀ (y : q9) (z : Unit), (q78 y) -> True -> I y z -> (decide (y.1 < (lnZ x.1)) = true -> (q34 <= y.1 /\ y.1 < (lnZ x.1)) /\ (q341 x y)
  /\ (q341 x y) /\ (q336 x y) /\ (q339 x y) /\ (q337 x y) /\ (q337 x y) /\ ((q340 x y) = false -> (q338 x y) = true /\ (q338 x y) = true /\ (q34 <= y.1 /\ y.1 <= (lnZ x.1)) /\ True) /\ (q337
  x y) /\ ((q340 x y) = false -> (q338 x y) = true /\ (q338 x y) = true /\ True /\ (∀ (y_1 : q4), (q41 y_1) -> y_1.1 = decide (List.getD x.1 (q112 y) q215 ∈ List.take (q112 y) x.1) -> (y_1.1
  = true -> false = unlikeK x.1 x.2.1 x.2.2.1) /\ (y_1.1 = false -> (lnZ x.1) = (lnZ x.1) /\ x.1 = x.1 /\ x.1 = x.1 /\ x.2.1 = x.2.1 /\ x.2.2.1 = x.2.2.1 /\ I (wrZ (q80 y), y.2.1, ()) () /\ μ
  (wrZ (q80 y), y.2.1, ()) () < μ y z)) /\ True) /\ ((q340 x y) = !false -> false = unlikeK x.1 x.2.1 x.2.2.1)) /\ (decide (y.1 < (lnZ x.1)) = false -> true = unlikeK x.1 x.2.1 x.2.2.1)
theorem e57 : t57 = Con.vc c_ext_unlike GL (mkEnvO ty [(107, conSem c_slices_Contains_int_int)] [] [] [0, 1, 2, 6, 7, 8, 9, 10, 11, 12, 30] [1000000]) {} Tryz.f57.ntmps Tryz.f57.results.toList (bodyOf Tryz.f57) := by kernel_rfl
theorem k57 : t57 := by
  unfold t57
  delta q203 wiZ q7 q8 lnZ q34 q9 q78 q341 q336 q339 q337 q340 q338 q4 q41 q112 q215 wrZ q80 q483 wbZ q416 q461 q462 q475 q444 q412 q485
  rintro ⟨l, lo, up, _⟩ hx hp
  have hl : l.length ≤ 9223372036854775807 := hx.1.1
  try dsimp +instances only [dft_int, dft_sl, dft_str]
  simp only [true_and, and_true, eq_self_iff_true, implies_true, reduceCtorEq, false_implies, true_implies, decide_eq_true_eq, decide_eq_false_iff_not, beq_self_eq_true, Bool.not_eq_true', ne_eq, Decidable.not_not, List.nil_append, List.length_singleton, List.length_cons, List.length_nil, Nat.zero_add, Nat.add_zero, Nat.mul_one, and_self, beq_iff_eq, Bool.not_true, Bool.not_false, Bool.not_eq_false', Bool.cond_false_right, Bool.and_eq_true, imp_self, Bool.not_eq_true, Bool.cond_true_left, Bool.or_eq_true]
  refine ⟨fun y _ => 0 ≤ y.1 ∧ y.1 ≤ l.length ∧ unlikeK (l.take y.1.toNat) lo up = true, fun y _ => ((l.length : Int) - y.1).toNat, ⟨Int.le_refl 0, by simp only; omega, by simp [unlike_nil]⟩, ?_⟩
  rintro ⟨i, r, _⟩ _ _ ⟨h0, h1, h2⟩
  simp only at h0 h1 h2 ⊢
  refine ⟨fun hi => ?_, fun hi => ?_⟩
  . have hs := unlike_step (l := l) (i := i.toNat) (by omega) lo up h2
    refine ⟨⟨h0, hi⟩, fun h => ⟨h, h, h0, by omega⟩, fun h => ⟨h, h, ?_⟩, fun h => ?_⟩
    . rintro ⟨y, _⟩ _ e
      simp only at e ⊢
      obtain ⟨h3, h4⟩ := Bool.or_eq_false_iff.1 h
      have h3 := of_decide_eq_false h3
      have h4 := of_decide_eq_false h4
      rw [decide_eq_true (show lo ≤ l.getD i.toNat 0 by omega), decide_eq_true (show l.getD i.toNat 0 ≤ up by omega), Bool.true_and, Bool.true_and] at hs
      refine ⟨fun hy => ?_, fun hy => ?_⟩
      . have hm := of_decide_eq_true (e.symm.trans hy)
        rw [decide_eq_false (fun hc => hc hm)] at hs
        exact (unlike_bad hs).symm
      . have hm := of_decide_eq_false (e.symm.trans hy)
        rw [decide_eq_true hm] at hs
        rw [wrapM (i + 1) (by omega) (by omega)]
        exact ⟨⟨by omega, by omega, by rw [show (i + 1).toNat = i.toNat + 1 by omega]; exact hs⟩, by omega⟩
    . refine (unlike_bad (i := i.toNat + 1) (hs.trans ?_)).symm
      rcases h with h | h
      . rw [decide_eq_false (show ¬ lo ≤ l.getD i.toNat 0 by omega), Bool.false_and]
      . rw [decide_eq_false (show ¬ l.getD i.toNat 0 ≤ up by omega), Bool.false_and, Bool.and_false]
  . rw [take_all (by omega)] at h2
    exact h2.symm
theorem h57 : c_ext_unlike.ok Tryz.prog GL 57 := conO_ok (H := {}) (mkEnvO_ok (gl := GL) (l := [(107, conSem c_slices_Contains_int_int)]) (q := []) (d := []) _ [1000000] tyOk (by kernel_rfl) ⟨h107.call, trivial⟩ trivial trivial) (by kernel_rfl) (by kernel_rfl) (Eq.mp e57 k57)
def t66 : Prop :=
  ∀ (x : q2), (wyZ x.1 /\ Kd.wf q203 x.2.1 /\ True) -> True -> True /\ (∀ (y : q0), (q266 y) -> (y.1, y.2.1) = DecD x.1 -> (decide (y.2.1 = q376) = true -> True) /\ (q343 y) /\ (decide (y.2.1
  = q376) = true -> True) /\ (q343 y) /\ (q343 y) /\ (decide (y.2.1 = q376) = true -> (decide (y.2.1 = q376) == true) = true /\ (decide (y.2.1 = q376) == true) = true /\ True) /\ (decide
  (y.2.1 = q376) = true -> (decide (y.2.1 = q376) == true) = true) /\ ((q342 y x) = true -> True) /\ ((q342 y x) = true -> True) /\ ((q342 y x) = true -> ((q342 y x) == true) = true /\ ((q342
  y x) == true) = true /\ True /\ (∀ (y_1 : q4), (q41 y_1) -> y_1.1 = decide (List.take (List.length x.2.1) y.1 = x.2.1) -> True /\ (∀ (y_2 : Unit), True -> y_1.1 = true -> (q34 <= (lnZ
  x.2.1) /\ (lnZ x.2.1) < (lnZ y.1)) /\ lastO x.1 x.2.1 = (List.getD y.1 (Int.toNat (lnZ x.2.1)) q215, true)) /\ ∀ (y : Unit), Kd.wf Kd.unit y -> y_1.1 = false -> (lastO x.1 x.2.1).2 = false)
  /\ True) /\ ((q342 y x) = !true -> True /\ (∀ (y_1 : Unit), True -> false = true -> (q34 <= (lnZ x.2.1) /\ (lnZ x.2.1) < (lnZ y.1)) /\ lastO x.1 x.2.1 = (List.getD y.1 (Int.toNat (lnZ
  x.2.1)) q215, true)) /\ ∀ (y : Unit), Kd.wf Kd.unit y -> false = false -> (lastO x.1 x.2.1).2 = false)) /\ True
theorem e66 : t66 = Con.vc c_ext_last GL (mkEnvO ty [(113, conSem c_oid_Decode), (114, conSem c_oid_Begins), (42, conSem c_ext_must)] [] [] [0, 1, 4, 5, 6] [1000000]) {} Tryz.f66.ntmps Tryz.f66.results.toList (bodyOf Tryz.f66) := by kernel_rfl
theorem k66 : t66 := by
  unfold t66
  delta q2 wyZ q203 q0 q266 q376 q343 q342 q4 q41 q34 lnZ q215 q483 q443 wiZ wrZ q412 wbZ
  rintro ⟨b, a, _⟩ hx hp
  have ha : a.length ≤ 9223372036854775807 := hx.2.1.1
  try dsimp +instances only [dft_int, dft_sl, dft_str]
  simp only [true_and, and_true, eq_self_iff_true, implies_true, reduceCtorEq, false_implies, true_implies, decide_eq_true_eq, decide_eq_false_iff_not, beq_self_eq_true, Bool.not_eq_true', ne_eq, Decidable.not_not, List.nil_append, List.length_singleton, List.length_cons, List.length_nil, Nat.zero_add, Nat.add_zero, Nat.mul_one, and_self, beq_iff_eq, Bool.not_true, Bool.not_false, Bool.not_eq_false', Bool.cond_false_right, Bool.and_eq_true, imp_self, Bool.not_eq_true, Bool.cond_true_left, Bool.or_eq_true]
  rintro ⟨m, f, _⟩ _ e
  simp only at e ⊢
  have hm : m.length ≤ 20 := by have := decD_len b; rw [← e] at this; exact this
  have key : ((m.length : Int) = IntKind.i64.wrap ((a.length : Int) + 1)) ↔ m.length = a.length + 1 := by
    rw [IntKind.wrap_i64]; omega
  have hL : lastO b a = if f = 0 ∧ m.length = a.length + 1 ∧ m.take a.length = a then (m.getD a.length 0, true) else (0, false) := by rw [lastO, ← e]
  refine ⟨fun h => ⟨h, h, ?_⟩, fun h _ _ => ?_⟩
  . rintro ⟨y, _⟩ _ e2
    simp only at e2 ⊢
    have hk := key.1 h.2
    refine ⟨fun _ hy => ⟨⟨by omega, by omega⟩, ?_⟩, fun _ _ hy => ?_⟩
    . rw [hL, if_pos ⟨h.1, hk, of_decide_eq_true (e2.symm.trans hy)⟩, Int.toNat_natCast]
    . rw [hL, if_neg]
      rintro ⟨_, _, h3⟩
      rw [decide_eq_true h3] at e2
      rw [e2] at hy
      cases hy
  . rw [hL, if_neg]
    rintro ⟨h1, h2, _⟩
    rw [decide_eq_true h1, decide_eq_true (key.2 h2)] at h
    cases h
theorem h66 : c_ext_last.ok Tryz.prog GL 66 := conO_ok (H := {}) (mkEnvO_ok (gl := GL) (l := [(113, conSem c_oid_Decode), (114, conSem c_oid_Begins), (42, conSem c_ext_must)]) (q := []) (d := []) _ [1000000] tyOk (by kernel_rfl) ⟨h113.call, h114.call, h42.call, trivial⟩ trivial trivial) (by kernel_rfl) (by kernel_rfl) (Eq.mp e66 k66)
def t55 : Prop :=
  ∀ (x : q1), (q30 x) -> q34 <= x.1 /\ x.1 <= (1000 : Int) -> (decide (x.1 = (4 : Int)) = true -> wrZ ((160 : Int) + x.1) = tagG x.1) /\ (decide (x.1 = (4 : Int)) = false -> wrZ (q91 + x.1) =
  tagG x.1)
theorem e55 : t55 = Con.vc c_ext_tag GL (mkEnvO ty [] [] [] [0, 2, 4] [1000000]) {} Tryz.f55.ntmps Tryz.f55.results.toList (bodyOf Tryz.f55) := by kernel_rfl
theorem k55 : t55 := by
  unfold t55
  delta q1 q30 q34 wrZ q91 wiZ
  rintro ⟨k, _⟩ hx hp
  have hp : 0 ≤ k ∧ k ≤ 1000 := hp
  try dsimp +instances only [dft_int, dft_sl, dft_str]
  simp only [true_and, and_true, eq_self_iff_true, implies_true, reduceCtorEq, false_implies, true_implies, decide_eq_true_eq, decide_eq_false_iff_not, beq_self_eq_true, Bool.not_eq_true', ne_eq, Decidable.not_not, List.nil_append, List.length_singleton, List.length_cons, List.length_nil, Nat.zero_add, Nat.add_zero, Nat.mul_one, and_self, beq_iff_eq, Bool.not_true, Bool.not_false, Bool.not_eq_false', Bool.cond_false_right, Bool.and_eq_true, imp_self, Bool.not_eq_true, Bool.cond_true_left, Bool.or_eq_true]
  exact ⟨fun h => by rw [tagG, if_pos h, wrapM _ (by omega) (by omega)]; omega, fun h => by rw [tagG, if_neg h, wrapM _ (by omega) (by omega)]⟩
theorem h55 : c_ext_tag.ok Tryz.prog GL 55 := conO_ok (H := {}) (mkEnvO_ok (gl := GL) (l := []) (q := []) (d := []) _ [1000000] tyOk (by kernel_rfl) trivial trivial trivial) (by kernel_rfl) (by kernel_rfl) (Eq.mp e55 k55)
def t63 : Prop :=
  ∀ (x : q14), (Kd.wf q392 x.1 /\ True) -> isTagD x.1.1 = true -> List.length [SV.dat q134 x.1.1, SV.dat q192 x.1.2] <= q63 /\ True /\ ((q34 <= wrZ (q344 x) /\ wrZ (q344 x) <= (1000 : Int))
  /\ (∀ (y : q1), (q30 y) -> y.1 = tagG (wrZ (q344 x)) -> (True /\ (∀ (y_1 : Unit), True -> decide (x.1.1 = y.1) = true -> okE x.1 = true /\ (wrZ (q344 x), x.1.2) = genE x.1) /\ ∀ (y_1 :
  Unit), Kd.wf Kd.unit y_1 -> decide (x.1.1 = y.1) = false -> okE x.1 = false) /\ True) /\ True) /\ True
theorem e63 : t63 = Con.vc c_ext_general GL (mkEnvO ty [(55, conSem c_ext_tag), (42, conSem c_ext_must)] [] [] [0, 1, 2, 3, 4] [1000000,3000001]) {} Tryz.f63.ntmps Tryz.f63.results.toList (bodyOf Tryz.f63) := by kernel_rfl
theorem k63 : t63 := by
  unfold t63
  delta q14 q392 q134 q192 q63 q34 wrZ q344 q1 q30 q483 q506 q474 wiZ
  rintro ⟨⟨t, c⟩, _⟩ hx hp
  have hp : isTagD t = true := hp
  have ht := tag_range hp
  try dsimp +instances only [dft_int, dft_sl, dft_str]
  simp only [true_and, and_true, eq_self_iff_true, implies_true, reduceCtorEq, false_implies, true_implies, decide_eq_true_eq, decide_eq_false_iff_not, beq_self_eq_true, Bool.not_eq_true', ne_eq, Decidable.not_not, List.nil_append, List.length_singleton, List.length_cons, List.length_nil, Nat.zero_add, Nat.add_zero, Nat.mul_one, and_self, beq_iff_eq, Bool.not_true, Bool.not_false, Bool.not_eq_false', Bool.cond_false_right, Bool.and_eq_true, imp_self, Bool.not_eq_true, Bool.cond_true_left, Bool.or_eq_true]
  simp only [and31 ht.1 ht.2.1]
  refine ⟨by decide, ⟨by omega, by omega⟩, ?_⟩
  rintro ⟨y, _⟩ _ e
  simp only at e ⊢
  refine ⟨fun _ h => ⟨?_, rfl⟩, fun _ _ h => ?_⟩
  . exact decide_eq_true (h.trans e)
  . exact decide_eq_false (fun hc => h (hc.trans e.symm))
theorem h63 : c_ext_general.ok Tryz.prog GL 63 := conO_ok (H := {}) (mkEnvO_ok (gl := GL) (l := [(55, conSem c_ext_tag), (42, conSem c_ext_must)]) (q := []) (d := []) _ [1000000,3000001] tyOk (by kernel_rfl) ⟨h55.call, h42.call, trivial⟩ trivial trivial) (by kernel_rfl) (by kernel_rfl) (Eq.mp e63 k63)
def t19 : Prop :=
  ∀ (x : q5), (q213 x) -> True -> (decide (q178 x) = false -> True) /\ (decide (q178 x) = false -> (decide (q178 x) == false) = true /\ True) /\ (decide (q178 x) = false -> (decide (q178 x)
  == false) = true /\ True) /\ (decide (q178 x) = false -> (decide (q178 x) == false) = true) /\ ((q345 x) = false -> True) /\ ((q345 x) = false -> ((q345 x) == false) = true /\ True /\ (∀ (y
  : q4), (q41 y) -> y.1 = unlikeK x.1 q66 (127 : Int) -> ((!y.1) = true -> ([], q346) = PurposesD x.1) /\ ((!y.1) = false -> ∃ (I : Int × Unit -> List (List Int) × Unit -> Prop), ∃ (μ : Int ×
  Unit -> List (List Int) × Unit -> Nat), ((lnZ x.1) = (lnZ x.1) /\ x.1 = x.1 /\ Value.bool false = Value.bool false /\ q34 = q34 /\ Value.slice none q65 q65 = Value.slice none q65 q65 /\ x.1
  = x.1 /\ I (q34, ()) ([], ())) /\ ∀ (y : q1) (z : q16), (q30 y) -> (Kd.wf q158 z.1 /\ True) -> I y z -> (decide (y.1 < (lnZ x.1)) = true -> (q34 <= y.1 /\ y.1 < (lnZ x.1)) /\ True /\ (∀
  (y_1 : q0), (q218 y_1) -> (y_1.1, y_1.2.1) = EncO [q66, q70, q68, q66, (5 : Int), (5 : Int), (7 : Int), q70, List.getD x.1 (q367 y) q215] -> (isTagD q68 = true /\ lenF [y_1.1] <= q193) /\
  (∀ (y_2 : q5), (q154 y_2) -> y_2.1 = putB (q68, List.flatten [y_1.1]) -> q65 < q36 /\ (List.length z.1 + List.length [y_2.1]) * (24 : Nat) <= q153 /\ List.length z.1 + List.length [y_2.1]
  <= q152 /\ (lnZ x.1) = (lnZ x.1) /\ x.1 = x.1 /\ Value.bool false = Value.bool false /\ q34 = q34 /\ Value.slice none q65 q65 = Value.slice none q65 q65 /\ x.1 = x.1 /\ I (wrZ (q223 y), ())
  (z.1 ++ [y_2.1], ()) /\ μ (wrZ (q223 y), ()) (z.1 ++ [y_2.1], ()) < μ y z) /\ True) /\ True) /\ (decide (y.1 < (lnZ x.1)) = false -> (isTagD q240 = true /\ lenF z.1 <= q193) /\ (∀ (y : q5),
  (q154 y) -> y.1 = putB (q240, List.flatten z.1) -> (y.1, q34) = PurposesD x.1) /\ True))) /\ True) /\ ((q345 x) = !false -> ([], q346) = PurposesD x.1)
theorem e19 : t19 = Con.vc c_ext_Purposes GL (mkEnvO ty [(57, conSem c_ext_unlike), (58, conSem c_oid_Encode), (43, conSem c_ext_wrap)] [] [] [0, 2, 3, 4, 6, 7, 21, 22, 23, 24, 25] [1000000]) {} Tryz.f19.ntmps Tryz.f19.results.toList (bodyOf Tryz.f19) := by kernel_rfl
theorem k19 : t19 := by
  unfold t19
  delta q5 q213 q178 q345 q4 q41 q66 q346 lnZ q34 q65 q1 q16 q30 q158 q0 q218 q70 q68 q367 q215 q193 q154 q36 q153 q152 wrZ q223 q240 q443 q376 wbZ wiZ q506 wyZ q483 q412
  rintro ⟨l, _⟩ hx hp
  try dsimp +instances only [dft_int, dft_sl, dft_str]
  simp only [true_and, and_true, eq_self_iff_true, implies_true, reduceCtorEq, false_implies, true_implies, decide_eq_true_eq, decide_eq_false_iff_not, beq_self_eq_true, Bool.not_eq_true', ne_eq, Decidable.not_not, List.nil_append, List.length_singleton, List.length_cons, List.length_nil, Nat.zero_add, Nat.add_zero, Nat.mul_one, and_self, beq_iff_eq, Bool.not_true, Bool.not_false, Bool.not_eq_false', Bool.cond_false_right, Bool.and_eq_true, imp_self, Bool.not_eq_true, Bool.cond_true_left, Bool.or_eq_true]
  refine ⟨fun h => ⟨h, ?_⟩, fun h => ?_⟩
  . obtain ⟨q1, q2⟩ := Bool.or_eq_false_iff.1 h
    have q1 := of_decide_eq_false q1
    have q2 := of_decide_eq_false q2
    have hne : l ≠ [] := fun e => q1 (by rw [e]; rfl)
    rintro ⟨y, _⟩ _ e
    simp only at e ⊢
    refine ⟨fun hy => ?_, fun hy => ?_⟩
    . rw [PurposesD, if_pos (.inr (.inr (e.symm.trans hy)))]
    . have hu : unlikeK l 1 127 = true := e.symm.trans hy
      have hin := unlike_in hu
      have hP : PurposesD l = (putB (48, l.flatMap purB), 0) := by
        rw [PurposesD, if_neg]
        rintro (h | h | h)
        . exact hne h
        . omega
        . rw [hu] at h; cases h
      have hfl := flat_le purB 60 l (fun n _ => purB_len n)
      rw [hP]
      refine ⟨fun y z => 0 ≤ y.1 ∧ y.1 ≤ l.length ∧ z.1.length = y.1.toNat ∧ z.1.flatten = (l.take y.1.toNat).flatMap purB, fun y _ => ((l.length : Int) - y.1).toNat, ⟨Int.le_refl 0, by simp only; omega, rfl, rfl⟩, ?_⟩
      rintro ⟨i, _⟩ ⟨zs, _⟩ _ _ ⟨h0, h1, h2, h3⟩
      simp only at h0 h1 h2 h3 ⊢
      refine ⟨fun hi => ⟨⟨h0, hi⟩, ?_⟩, fun hi => ?_⟩
      . rintro ⟨c, f, _⟩ _ e2
        simp only at e2 ⊢
        have hm := hin _ (gd_mem l 0 i.toNat (by omega))
        have hmay : mayO (purA ++ [l.getD i.toNat 0]) = true := pur_may (by omega) hm.2
        have e3 : EncO [1, 3, 6, 1, 5, 5, 7, 3, l.getD i.toNat 0] = (encO (purA ++ [l.getD i.toNat 0]), 0) := if_pos hmay
        rw [e3] at e2
        obtain ⟨rfl, rfl⟩ := Prod.mk.inj e2
        have hlen := encO_len (purA ++ [l.getD i.toNat 0])
        have h9 : (purA ++ [l.getD i.toNat 0]).length = 9 := rfl
        simp only [flat_one]
        refine ⟨⟨by decide, by rw [lenF, flat_one]; omega⟩, ?_⟩
        rintro ⟨d, _⟩ _ e4
        simp only at e4 ⊢
        subst e4
        rw [wrapM (i + 1) (by omega) (by omega)]
        refine ⟨by decide, by omega, by omega, ⟨by omega, by omega, by rw [List.length_append]; simp only [List.length_cons, List.length_nil]; omega, ?_⟩, by omega⟩
        rw [show (i + 1).toNat = i.toNat + 1 by omega, flat_take purB l 0 i.toNat (by omega), List.flatten_append, h3, flat_one]
        rfl
      . rw [take_all (by omega)] at h3
        refine ⟨⟨by decide, by rw [lenF, h3]; omega⟩, ?_⟩
        rintro ⟨d, _⟩ _ e4
        simp only at e4 ⊢
        rw [e4, h3]
  . rw [PurposesD, if_pos]
    rcases h with h | h
    . exact .inl (List.length_eq_zero_iff.1 (by omega))
    . exact .inr (.inl (by omega))
theorem h19 : c_ext_Purposes.ok Tryz.prog GL 19 := conO_ok (H := {}) (mkEnvO_ok (gl := GL) (l := [(57, conSem c_ext_unlike), (58, conSem c_oid_Encode), (43, conSem c_ext_wrap)]) (q := []) (d := []) _ [1000000] tyOk (by kernel_rfl) ⟨h57.call, h58.call, h43.call, trivial⟩ trivial trivial) (by kernel_rfl) (by kernel_rfl) (Eq.mp e19 k19)
noncomputable def i112 : DefSem := vcDef (mkEnv ty [] [] [] [0, 1, 2, 4, 5, 8, 15]) {} Tryz.f112.ntmps Tryz.f112.results.toList (bodyOf Tryz.f112)
theorem i112_ok : DefOk Tryz.prog GL 112 i112 := def_ok {} (mkEnv_ok (gl := GL) (l := []) (q := []) (d := []) _ tyOk (by kernel_rfl) trivial trivial trivial) (by kernel_rfl) (by kernel_rfl)
noncomputable def i65 : CallSem := vcFn (mkEnvO ty [(50, conSem c_ext_inside), (42, conSem c_ext_must), (66, conSem c_ext_last), (57, conSem c_ext_unlike)] [] [] [0, 1, 2, 4, 6, 7, 8, 9] [1000000]) {} Tryz.f65.ntmps Tryz.f65.results.toList (bodyOf Tryz.f65)
theorem i65_ok : CallOk Tryz.prog GL 65 i65 := inlO_ok {} (mkEnvO_ok (gl := GL) (l := [(50, conSem c_ext_inside), (42, conSem c_ext_must), (66, conSem c_ext_last), (57, conSem c_ext_unlike)]) (q := []) (d := []) _ [1000000] tyOk (by kernel_rfl) ⟨h50.call, h42.call, h66.call, h57.call, trivial⟩ trivial trivial) (by kernel_rfl) (by kernel_rfl)
noncomputable def i64 : CallSem := vcFn (mkEnv ty [(65, i65)] [] [(112, i112)] [0, 2, 3]) {} Tryz.f64.ntmps Tryz.f64.results.toList (bodyOf Tryz.f64)
theorem i64_ok : CallOk Tryz.prog GL 64 i64 := inl_ok {} (mkEnv_ok (gl := GL) (l := [(65, i65)]) (q := []) (d := [(112, i112)]) _ tyOk (by kernel_rfl) ⟨i65_ok, trivial⟩ trivial ⟨i112_ok, trivial⟩) (by kernel_rfl) (by kernel_rfl)
def t23 : Prop :=
  ∀ (x : q5), (q154 x) -> lenB x.1 <= q333 -> List.length [SV.dat q192 x.1] <= q63 /\ q36 <= q63 /\ q36 <= q63 /\ lenB x.1 <= q333 /\ (∀ (y : q15), (q349 y) -> insD x.1 q240 = (y.1, true) ->
  ∃ (I : Int × Unit -> q188 × Unit × (Int × Unit) × List q189 × List Int × List Int × Unit -> Prop), ∃ (μ : Int × Unit -> q188 × Unit × (Int × Unit) × List q189 × List Int × List Int × Unit
  -> Nat), ((lnZ y.1) = (lnZ y.1) /\ Value.slice none q65 q65 = Value.slice none q65 q65 /\ q34 = q34 /\ Value.slice none q65 q65 = Value.slice none q65 q65 /\ x.1 = x.1 /\ I (q34, ()) ((x.1,
  ()), (), (q34, ()), y.1, [], [], ())) /\ ∀ (y_1 : q1) (z : q188 × Unit × (Int × Unit) × List q189 × List Int × List Int × Unit), (q30 y_1) -> (wyZ z.1.1 /\ True) /\ True /\ (wiZ z.2.2.1.1
  /\ True) /\ (Kd.wf q187 z.2.2.2.1 /\ Kd.wf q203 z.2.2.2.2.1 /\ Kd.wf q203 z.2.2.2.2.2.1 /\ True) -> I y_1 z -> (decide (y_1.1 < (lnZ y.1)) = true -> (q34 <= y_1.1 /\ y_1.1 < (lnZ
  z.2.2.2.1)) /\ q67 <= q63 /\ True /\ (∀ (y_2 : Unit), True -> decide ((q347 z y_1).1 = q68) = true -> True /\ (∀ (y_3 : q1), (q30 y_3) -> lastO (q347 z y_1).2 [q66, q70, q68, q66, (5 :
  Int), (5 : Int), (7 : Int), q70] = (y_3.1, true) -> q65 < q36 /\ (List.length z.2.2.2.2.1 + List.length [y_3.1]) * q369 <= q153 /\ List.length z.2.2.2.2.1 + List.length [y_3.1] <= q152 /\
  (lnZ y.1) = (lnZ y.1) /\ Value.slice none q65 q65 = Value.slice none q65 q65 /\ q34 = q34 /\ Value.slice none q65 q65 = Value.slice none q65 q65 /\ x.1 = x.1 /\ I (wrZ (q223 y_1), ())
  ((z.1.1, ()), (), (z.2.2.1.1, ()), z.2.2.2.1, z.2.2.2.2.1 ++ [y_3.1], z.2.2.2.2.2.1, ()) /\ μ (wrZ (q223 y_1), ()) ((z.1.1, ()), (), (z.2.2.1.1, ()), z.2.2.2.1, z.2.2.2.2.1 ++ [y_3.1],
  z.2.2.2.2.2.1, ()) < μ y_1 z) /\ ∀ (y : Unit), Kd.wf Kd.unit y -> (lastO (q347 z y_1).2 [q66, q70, q68, q66, (5 : Int), (5 : Int), (7 : Int), q70]).2 = false -> q65 <= q63 /\ ([], q346) =
  ToPurposesD x.1) /\ ∀ (y : Unit), Kd.wf Kd.unit y -> decide ((q347 z y_1).1 = q68) = false -> q65 <= q63 /\ ([], q346) = ToPurposesD x.1) /\ (decide (y_1.1 < (lnZ y.1)) = false -> (decide
  (q376 < (lnZ z.2.2.2.2.1)) = true -> True) /\ (decide (q376 < (lnZ z.2.2.2.2.1)) = true -> (decide (q376 < (lnZ z.2.2.2.2.1)) == true) = true /\ True) /\ (decide (q376 < (lnZ z.2.2.2.2.1))
  = true -> (decide (q376 < (lnZ z.2.2.2.2.1)) == true) = true /\ True) /\ (decide (q376 < (lnZ z.2.2.2.2.1)) = true -> (decide (q376 < (lnZ z.2.2.2.2.1)) == true) = true) /\ ((q348 z) = true
  -> True) /\ ((q348 z) = true -> ((q348 z) == true) = true /\ True /\ (∀ (y : q4), (q41 y) -> y.1 = unlikeK z.2.2.2.2.1 q66 (127 : Int) -> True /\ (∀ (y_2 : Unit), True -> y.1 = true ->
  (z.2.2.2.2.1, q34) = ToPurposesD x.1) /\ ∀ (y_2 : Unit), Kd.wf Kd.unit y_2 -> y.1 = false -> q65 <= q63 /\ ([], q346) = ToPurposesD x.1) /\ True) /\ ((q348 z) = !true -> True /\ (∀ (y :
  Unit), True -> false = true -> (z.2.2.2.2.1, q34) = ToPurposesD x.1) /\ ∀ (y : Unit), Kd.wf Kd.unit y -> false = false -> q65 <= q63 /\ ([], q346) = ToPurposesD x.1))) /\ ∀ (y : Unit),
  Kd.wf Kd.unit y -> (insD x.1 q240).2 = false -> q65 <= q63 /\ ([], q346) = ToPurposesD x.1
theorem e23 : t23 = Con.vc c_ext_ToPurposes GL (mkEnv ty [(64, i64)] [] [] [0, 1, 2, 3]) {} Tryz.f23.ntmps Tryz.f23.results.toList (bodyOf Tryz.f23) := by kernel_rfl
theorem k23 : t23 := by
  unfold t23
  delta q5 q154 q333 q192 q63 q36 q15 q349 q240 q188 q189 lnZ q65 q34 q1 q30 wyZ wiZ q187 q203 q67 q347 q68 q66 q70 q369 q153 q152 wrZ q223 q346 q376 q348 q4 q41 q474 q442 q392 q483 q367 q407 q412 wbZ q499 q506
  rintro ⟨b, _⟩ hx hp
  have hp : b.length ≤ 2000000 := hp
  try dsimp +instances only [dft_int, dft_sl, dft_str]
  simp only [true_and, and_true, eq_self_iff_true, implies_true, reduceCtorEq, false_implies, true_implies, decide_eq_true_eq, decide_eq_false_iff_not, beq_self_eq_true, Bool.not_eq_true', ne_eq, Decidable.not_not, List.nil_append, List.length_singleton, List.length_cons, List.length_nil, Nat.zero_add, Nat.add_zero, Nat.mul_one, and_self, beq_iff_eq, Bool.not_true, Bool.not_false, Bool.not_eq_false', Bool.cond_false_right, Bool.and_eq_true, imp_self, Bool.not_eq_true, Bool.cond_true_left, Bool.or_eq_true]
  have hdE : ((Kd.int IntKind.i64).pair (Kd.int IntKind.u8).sl).dft = edft := rfl
  try simp only [hdE]
  refine ⟨by decide, by decide, by decide, hp, ?_, fun _ _ h => ⟨by decide, ?_⟩⟩
  . rintro ⟨L, _⟩ _ e
    simp only at e ⊢
    have hLl : L.length ≤ 2000000 := by have := (insD_len b 48).1; rw [e] at this; simp only at this; omega
    have hD : ToPurposesD b = if L.all okP = true ∧ L ≠ [] ∧ L.length ≤ 16 ∧ unlikeK (L.map fun x => (lastO x.2 purA).1) 1 127 = true then (L.map fun x => (lastO x.2 purA).1, 0) else ([], 150) := by
      rw [ToPurposesD, e]; simp only [true_and]
    have hbad : ∀ {i : Nat}, i < L.length → okP (L.getD i edft) = false → ToPurposesD b = ([], 150) := fun hi h => by
      rw [hD, if_neg]
      rintro ⟨h1, _⟩
      rw [List.all_eq_true.1 h1 _ (gd_mem L edft _ hi)] at h
      cases h
    refine ⟨fun y z => 0 ≤ y.1 ∧ y.1 ≤ L.length ∧ z.2.2.2.1 = L ∧ z.2.2.2.2.1 = (L.take y.1.toNat).map (fun x => (lastO x.2 purA).1) ∧ ∀ x ∈ L.take y.1.toNat, okP x = true, fun y _ => ((L.length : Int) - y.1).toNat, ⟨Int.le_refl 0, by simp only; omega, rfl, by simp, by simp⟩, ?_⟩
    rintro ⟨i, _⟩ ⟨⟨z1, _⟩, z2, ⟨z3, _⟩, row, acc, oth, _⟩ _ _ ⟨h0, h1, h2, h3, h4⟩
    simp only at h0 h1 h2 h3 h4 ⊢
    simp only [h2]
    have hal : acc.length = i.toNat := by rw [h3, List.length_map, List.length_take]; omega
    refine ⟨fun hi => ⟨⟨h0, hi⟩, by decide, fun _ h6 => ⟨?_, fun _ _ h => ⟨by decide, ?_⟩⟩, fun _ _ h => ⟨by decide, ?_⟩⟩, fun hi => ?_⟩
    . rintro ⟨n, _⟩ _ e2
      simp only at e2 ⊢
      rw [wrapM (i + 1) (by omega) (by omega)]
      have e3 : lastO (L.getD i.toNat edft).2 purA = (n, true) := e2
      refine ⟨by decide, by omega, by omega, ⟨by omega, by omega, trivial, ?_, ?_⟩, by omega⟩
      . rw [show (i + 1).toNat = i.toNat + 1 by omega, map_take _ L edft i.toNat (by omega), h3, e3]
      . rw [show (i + 1).toNat = i.toNat + 1 by omega]
        refine all_take edft (by omega) h4 ?_
        rw [okP, e3, decide_eq_true h6]; rfl
    . refine (hbad (i := i.toNat) (by omega) ?_).symm
      have h : (lastO (L.getD i.toNat edft).2 purA).2 = false := h
      rw [okP, h, Bool.and_false]
    . refine (hbad (i := i.toNat) (by omega) ?_).symm
      rw [okP, decide_eq_false h, Bool.false_and]
    . rw [take_all (by omega)] at h3 h4
      have hall : L.all okP = true := List.all_eq_true.2 h4
      have hlen : L.length = acc.length := by rw [h3, List.length_map]
      have hne : L ≠ [] ↔ 0 < (acc.length : Int) := by
        rw [← hlen]
        constructor
        . intro h; have := List.length_pos_iff.2 h; omega
        . intro h hc; rw [hc] at h; exact absurd h (by decide)
      rw [← h3, hall, hlen] at hD
      refine ⟨fun h => ⟨h, ?_⟩, fun h _ _ => ⟨by decide, ?_⟩⟩
      . rintro ⟨y, _⟩ _ e2
        simp only at e2 ⊢
        refine ⟨fun _ hy => ?_, fun _ _ hy => ⟨by decide, ?_⟩⟩
        . rw [hD, if_pos ⟨rfl, hne.2 h.1, by omega, e2.symm.trans hy⟩]
        . rw [hD, if_neg]
          rintro ⟨_, _, _, hc⟩
          rw [← e2, hy] at hc; cases hc
      . rw [hD, if_neg]
        rintro ⟨_, hc, hc2, _⟩
        rw [decide_eq_true (hne.1 hc), decide_eq_true (show (acc.length : Int) ≤ 16 by omega)] at h
        cases h
  . rw [ToPurposesD, if_neg]
    rintro ⟨h1, _⟩
    rw [h] at h1; cases h1
theorem h23 : c_ext_ToPurposes.ok Tryz.prog GL 23 := con_ok (H := {}) (mkEnv_ok (gl := GL) (l := [(64, i64)]) (q := []) (d := []) _ tyOk (by kernel_rfl) ⟨i64_ok, trivial⟩ trivial trivial) (by kernel_rfl) (by kernel_rfl) (Eq.mp e23 k23)
def t17 : Prop :=
  ∀ (x : q15), (q150 x) -> lenG x.1 <= q333 -> (decide ((lnZ x.1) = q34) = false -> True) /\ (decide ((lnZ x.1) = q34) = false -> (decide ((lnZ x.1) = q34) == false) = true /\ True) /\
  (decide ((lnZ x.1) = q34) = false -> (decide ((lnZ x.1) = q34) == false) = true /\ True) /\ (decide ((lnZ x.1) = q34) = false -> (decide ((lnZ x.1) = q34) == false) = true) /\ ((bif decide
  ((lnZ x.1) = q34) then true else decide ((16 : Int) < (lnZ x.1))) = true -> ([], q346) = NamesD x.1) /\ ((bif decide ((lnZ x.1) = q34) then true else decide ((16 : Int) < (lnZ x.1))) =
  false -> ∃ (I : Int × Int × Unit -> List (List Int) × List Int × Unit -> Prop), ∃ (μ : Int × Int × Unit -> List (List Int) × List Int × Unit -> Nat), ((lnZ x.1) = (lnZ x.1) /\ x.1 = x.1 /\
  Value.bool false = Value.bool false /\ x.1 = x.1 /\ I (q34, q34, ()) ([], [], ())) /\ ∀ (y : q6) (z : List (List Int) × List Int × Unit), (q89 y) -> (Kd.wf q158 z.1 /\ wyZ z.2.1 /\ True) ->
  I y z -> (decide (y.1 < (lnZ x.1)) = true -> (q34 <= y.1 /\ y.1 < (lnZ x.1)) /\ q67 <= q63 /\ List.length (q352 x y).2 <= q149 /\ (∀ (y_1 : q4), (q41 y_1) -> y_1.1 = mayG (q352 x y).1 (q352
  x y).2 -> ((!y_1.1) = true -> ([], q346) = NamesD x.1) /\ ((!y_1.1) = false -> True /\ True /\ ((q351 x y) /\ (∀ (y_2 : q1), (q30 y_2) -> y_2.1 = tagG (q352 x y).1 -> ((q350 y_2 x y z I μ)
  /\ True) /\ True) /\ True) /\ (((q351 x y) /\ (∀ (y_2 : q1), (q30 y_2) -> y_2.1 = tagG (q352 x y).1 -> (q350 y_2 x y z I μ) /\ True) /\ True) /\ (((q351 x y) /\ (∀ (y_2 : q1), (q30 y_2) ->
  y_2.1 = tagG (q352 x y).1 -> (q415 y_2 x y z I μ) /\ True) /\ True) /\ True) /\ True) /\ True)) /\ True) /\ (decide (y.1 < (lnZ x.1)) = false -> (isTagD q240 = true /\ lenF z.1 <= q193) /\
  (∀ (y : q5), (q154 y) -> y.1 = putB (q240, List.flatten z.1) -> (y.1, q34) = NamesD x.1) /\ True))
theorem e17 : t17 = Con.vc c_ext_Names GL (mkEnvO ty [(54, conSem c_host_May), (55, conSem c_ext_tag), (43, conSem c_ext_wrap)] [] [] [0, 2, 3, 4, 6, 14, 15, 16, 17, 18, 23] [1000000,3000006]) {} Tryz.f17.ntmps Tryz.f17.results.toList (bodyOf Tryz.f17) := by kernel_rfl
theorem k17 : t17 := by
  unfold t17
  delta q15 q150 q333 lnZ q34 q346 q6 q89 q158 wyZ q67 q63 q352 q149 q4 q41 q351 q1 q30 q350 q415 q240 q193 q5 q154 q410 wiZ q506 q382 wbZ q376 q463 q489 q482 q468 q477 q476 wrZ q483
  rintro ⟨l, _⟩ hx hp
  have hp : lenG l ≤ 2000000 := hp
  try dsimp +instances only [dft_int, dft_sl, dft_str]
  simp only [true_and, and_true, eq_self_iff_true, implies_true, reduceCtorEq, false_implies, true_implies, decide_eq_true_eq, decide_eq_false_iff_not, beq_self_eq_true, Bool.not_eq_true', ne_eq, Decidable.not_not, List.nil_append, List.length_singleton, List.length_cons, List.length_nil, Nat.zero_add, Nat.add_zero, Nat.mul_one, and_self, beq_iff_eq, Bool.not_true, Bool.not_false, Bool.not_eq_false', Bool.cond_false_right, Bool.and_eq_true, imp_self, Bool.not_eq_true, Bool.cond_true_left, Bool.or_eq_true]
  have hdG : ((Kd.int IntKind.i64).pair Kd.str).dft = gdft := rfl
  try simp only [hdG]
  refine ⟨fun h => ?_, fun h => ?_⟩
  . rw [NamesD, if_pos]
    rcases h with h | h
    . exact .inl (List.length_eq_zero_iff.1 (by omega))
    . exact .inr (.inl (by omega))
  . obtain ⟨q1, q2⟩ := Bool.or_eq_false_iff.1 h
    have q1 := of_decide_eq_false q1
    have q2 := of_decide_eq_false q2
    have hne : l ≠ [] := fun e => q1 (by rw [e]; rfl)
    have hfl := genBs_len l
    refine ⟨fun y z => 0 ≤ y.1 ∧ y.1 ≤ l.length ∧ z.1.length = y.1.toNat ∧ z.1.flatten = (l.take y.1.toNat).flatMap genB ∧ ∀ g ∈ l.take y.1.toNat, mayG g.1 g.2 = true, fun y _ => ((l.length : Int) - y.1).toNat, ⟨Int.le_refl 0, by simp only; omega, rfl, rfl, by simp⟩, ?_⟩
    rintro ⟨i, r, _⟩ ⟨zs, z2, _⟩ _ _ ⟨h0, h1, h2, h3, h4⟩
    simp only at h0 h1 h2 h3 h4 ⊢
    refine ⟨fun hi => ?_, fun hi => ?_⟩
    . have hmem := gd_mem l gdft i.toNat (by omega)
      have hgl := sum_mem hmem
      refine ⟨⟨h0, hi⟩, by decide, by omega, ?_⟩
      rintro ⟨y, _⟩ _ e
      simp only at e ⊢
      refine ⟨fun hy => ?_, fun hy => ?_⟩
      . have ha : (l.all fun g => mayG g.1 g.2) = false := by
          cases ha : l.all fun g => mayG g.1 g.2 with
          | false => rfl
          | true =>
            have := List.all_eq_true.1 ha _ hmem
            rw [← e, hy] at this; cases this
        rw [NamesD, if_pos (.inr (.inr ha))]
      . have hmay : mayG (l.getD i.toNat gdft).1 (l.getD i.toNat gdft).2 = true := e.symm.trans hy
        have hk := may_kind' hmay
        have hkr : 0 ≤ (l.getD i.toNat gdft).1 ∧ (l.getD i.toNat gdft).1 ≤ 1000 := by
          rcases hk with h | h | h | h <;> rw [h] <;> decide
        refine ⟨hkr, ?_⟩
        rintro ⟨t, _⟩ _ e2
        simp only at e2 ⊢
        simp only [flat_one]
        refine ⟨⟨by rw [e2]; exact (tagG_kind hk).1, by rw [lenF, flat_one]; omega⟩, ?_⟩
        rintro ⟨d, _⟩ _ e4
        simp only at e4 ⊢
        rw [wrapM (i + 1) (by omega) (by omega)]
        refine ⟨by decide, by omega, by omega, ⟨by omega, by omega, by rw [List.length_append]; simp only [List.length_cons, List.length_nil]; omega, ?_, ?_⟩, by omega⟩
        . rw [show (i + 1).toNat = i.toNat + 1 by omega, flat_take genB l gdft i.toNat (by omega), List.flatten_append, h3, flat_one, e4, e2]
          rfl
        . rw [show (i + 1).toNat = i.toNat + 1 by omega]
          exact all_take gdft (by omega) h4 hmay
    . rw [take_all (by omega)] at h3 h4
      have hall : (l.all fun g => mayG g.1 g.2) = true := List.all_eq_true.2 h4
      refine ⟨⟨by decide, by rw [lenF, h3]; omega⟩, ?_⟩
      rintro ⟨d, _⟩ _ e4
      simp only at e4 ⊢
      rw [NamesD, if_neg, e4, h3]
      rintro (h | h | h)
      . exact hne h
      . omega
      . rw [hall] at h; cases h
theorem h17 : c_ext_Names.ok Tryz.prog GL 17 := conO_ok (H := {}) (mkEnvO_ok (gl := GL) (l := [(54, conSem c_host_May), (55, conSem c_ext_tag), (43, conSem c_ext_wrap)]) (q := []) (d := []) _ [1000000,3000006] tyOk (by kernel_rfl) ⟨h54.call, h55.call, h43.call, trivial⟩ trivial trivial) (by kernel_rfl) (by kernel_rfl) (Eq.mp e17 k17)
noncomputable def i111 : DefSem := vcDef (mkEnv ty [] [] [] [0, 1, 2, 4, 5, 8, 15]) {} Tryz.f111.ntmps Tryz.f111.results.toList (bodyOf Tryz.f111)
theorem i111_ok : DefOk Tryz.prog GL 111 i111 := def_ok {} (mkEnv_ok (gl := GL) (l := []) (q := []) (d := []) _ tyOk (by kernel_rfl) trivial trivial trivial) (by kernel_rfl) (by kernel_rfl)
noncomputable def i62 : CallSem := vcFn (mkEnvO ty [(50, conSem c_ext_inside), (42, conSem c_ext_must), (63, conSem c_ext_general), (54, conSem c_host_May)] [] [] [0, 1, 2, 4, 5, 6, 8, 9, 10, 11] [1000000]) {} Tryz.f62.ntmps Tryz.f62.results.toList (bodyOf Tryz.f62)
theorem i62_ok : CallOk Tryz.prog GL 62 i62 := inlO_ok {} (mkEnvO_ok (gl := GL) (l := [(50, conSem c_ext_inside), (42, conSem c_ext_must), (63, conSem c_ext_general), (54, conSem c_host_May)]) (q := []) (d := []) _ [1000000] tyOk (by kernel_rfl) ⟨h50.call, h42.call, h63.call, h54.call, trivial⟩ trivial trivial) (by kernel_rfl) (by kernel_rfl)
noncomputable def i61 : CallSem := vcFn (mkEnv ty [(62, i62)] [] [(111, i111)] [0, 2, 3]) {} Tryz.f61.ntmps Tryz.f61.results.toList (bodyOf Tryz.f61)
theorem i61_ok : CallOk Tryz.prog GL 61 i61 := inl_ok {} (mkEnv_ok (gl := GL) (l := [(62, i62)]) (q := []) (d := [(111, i111)]) _ tyOk (by kernel_rfl) ⟨i62_ok, trivial⟩ trivial ⟨i111_ok, trivial⟩) (by kernel_rfl) (by kernel_rfl)
def t21 : Prop :=
  ∀ (x : q5), (q154 x) -> lenB x.1 <= q333 -> List.length [SV.dat q192 x.1] <= q63 /\ q36 <= q63 /\ q36 <= q63 /\ lenB x.1 <= q333 /\ (∀ (y : q15), (q349 y) -> insD x.1 q240 = (y.1, true) ->
  ∃ (I : Int × Unit -> q188 × Unit × (Int × Unit) × List q189 × List q189 × List q189 × Unit -> Prop), ∃ (μ : Int × Unit -> q188 × Unit × (Int × Unit) × List q189 × List q189 × List q189 ×
  Unit -> Nat), ((lnZ y.1) = (lnZ y.1) /\ Value.slice none q65 q65 = Value.slice none q65 q65 /\ q34 = q34 /\ Value.slice none q65 q65 = Value.slice none q65 q65 /\ x.1 = x.1 /\ I (q34, ())
  ((x.1, ()), (), (q34, ()), y.1, [], [], ())) /\ ∀ (y_1 : q1) (z : q188 × Unit × (Int × Unit) × List q189 × List q189 × List q189 × Unit), (q30 y_1) -> (wyZ z.1.1 /\ True) /\ True /\ (wiZ
  z.2.2.1.1 /\ True) /\ (Kd.wf q187 z.2.2.2.1 /\ Kd.wf q250 z.2.2.2.2.1 /\ Kd.wf q250 z.2.2.2.2.2.1 /\ True) -> I y_1 z -> (decide (y_1.1 < (lnZ y.1)) = true -> (q34 <= y_1.1 /\ y_1.1 < (lnZ
  z.2.2.2.1)) /\ q67 <= q63 /\ isTagD (q353 z y_1).1 = true /\ (∀ (y_2 : q13), (wiZ y_2.1 /\ wsZ y_2.2.1 /\ True) -> okE ((q353 z y_1).1, (q353 z y_1).2) = true /\ (y_2.1, y_2.2.1) = genE
  ((q353 z y_1).1, (q353 z y_1).2) -> List.length y_2.2.1 <= q149 /\ (∀ (y_3 : q4), (q41 y_3) -> y_3.1 = mayG y_2.1 y_2.2.1 -> True /\ (∀ (y_4 : Unit), True -> y_3.1 = true -> q65 < q67 /\
  (List.length z.2.2.2.2.1 + List.length [(y_2.1, y_2.2.1)]) * (24 : Nat) <= q153 /\ List.length z.2.2.2.2.1 + List.length [(y_2.1, y_2.2.1)] <= q152 /\ (lnZ y.1) = (lnZ y.1) /\ Value.slice
  none q65 q65 = Value.slice none q65 q65 /\ q34 = q34 /\ Value.slice none q65 q65 = Value.slice none q65 q65 /\ x.1 = x.1 /\ I (wrZ (q223 y_1), ()) ((z.1.1, ()), (), (z.2.2.1.1, ()),
  z.2.2.2.1, z.2.2.2.2.1 ++ [(y_2.1, y_2.2.1)], z.2.2.2.2.2.1, ()) /\ μ (wrZ (q223 y_1), ()) ((z.1.1, ()), (), (z.2.2.1.1, ()), z.2.2.2.1, z.2.2.2.2.1 ++ [(y_2.1, y_2.2.1)], z.2.2.2.2.2.1,
  ()) < μ y_1 z) /\ ∀ (y : Unit), Kd.wf Kd.unit y -> y_3.1 = false -> q65 <= q63 /\ ([], q346) = ToNamesD x.1) /\ True) /\ ∀ (y : Unit), Kd.wf Kd.unit y -> okE ((q353 z y_1).1, (q353 z
  y_1).2) = false -> q65 <= q63 /\ ([], q346) = ToNamesD x.1) /\ (decide (y_1.1 < (lnZ y.1)) = false -> (decide (q34 < (lnZ z.2.2.2.2.1)) = true -> True) /\ (decide (q34 < (lnZ z.2.2.2.2.1))
  = true -> (decide (q34 < (lnZ z.2.2.2.2.1)) == true) = true /\ True) /\ (decide (q34 < (lnZ z.2.2.2.2.1)) = true -> (decide (q34 < (lnZ z.2.2.2.2.1)) == true) = true /\ True) /\ (decide
  (q34 < (lnZ z.2.2.2.2.1)) = true -> (decide (q34 < (lnZ z.2.2.2.2.1)) == true) = true) /\ True /\ (∀ (y : Unit), True -> (bif decide (q34 < (lnZ z.2.2.2.2.1)) then decide ((lnZ z.2.2.2.2.1)
  <= (16 : Int)) else false) = true -> (z.2.2.2.2.1, q34) = ToNamesD x.1) /\ ∀ (y : Unit), Kd.wf Kd.unit y -> (bif decide (q34 < (lnZ z.2.2.2.2.1)) then decide ((lnZ z.2.2.2.2.1) <= (16 :
  Int)) else false) = false -> q65 <= q63 /\ ([], q346) = ToNamesD x.1)) /\ ∀ (y : Unit), Kd.wf Kd.unit y -> (insD x.1 q240).2 = false -> q65 <= q63 /\ ([], q346) = ToNamesD x.1
theorem e21 : t21 = Con.vc c_ext_ToNames GL (mkEnv ty [(61, i61)] [] [] [0, 1, 2, 3]) {} Tryz.f21.ntmps Tryz.f21.results.toList (bodyOf Tryz.f21) := by kernel_rfl
theorem k21 : t21 := by
  unfold t21
  delta q5 q154 q333 q192 q63 q36 q15 q349 q240 q188 q189 lnZ q65 q34 q1 q30 wyZ wiZ q187 q250 q67 q353 q13 wsZ q149 q4 q41 q153 q152 wrZ q223 q346 q474 q442 q392 q410 q367 q407 wbZ q412 q499 q483 q506
  rintro ⟨b, _⟩ hx hp
  have hp : b.length ≤ 2000000 := hp
  have hb : Bys b := sl_bys hx.1
  try dsimp +instances only [dft_int, dft_sl, dft_str]
  simp only [true_and, and_true, eq_self_iff_true, implies_true, reduceCtorEq, false_implies, true_implies, decide_eq_true_eq, decide_eq_false_iff_not, beq_self_eq_true, Bool.not_eq_true', ne_eq, Decidable.not_not, List.nil_append, List.length_singleton, List.length_cons, List.length_nil, Nat.zero_add, Nat.add_zero, Nat.mul_one, and_self, beq_iff_eq, Bool.not_true, Bool.not_false, Bool.not_eq_false', Bool.cond_false_right, Bool.and_eq_true, imp_self, Bool.not_eq_true, Bool.cond_true_left, Bool.or_eq_true]
  have hdE : ((Kd.int IntKind.i64).pair (Kd.int IntKind.u8).sl).dft = edft := rfl
  try simp only [hdE]
  refine ⟨by decide, by decide, by decide, hp, ?_, fun _ _ h => ⟨by decide, ?_⟩⟩
  . rintro ⟨L, _⟩ _ e
    simp only at e ⊢
    have hLl : L.length ≤ 2000000 ∧ ∀ x ∈ L, x.2.length ≤ 2000000 := by
      have h1 := insD_len b 48
      rw [e] at h1
      simp only at h1
      exact ⟨by omega, fun x hx => by have := h1.2 x hx; omega⟩
    have hof := ins_of (b := b) (t := 48) hb (by rw [e])
    rw [e] at hof
    have hD : ToNamesD b = if L.all okG = true ∧ L ≠ [] ∧ L.length ≤ 16 then (L.map genE, 0) else ([], 150) := by
      rw [ToNamesD, e]; simp only [true_and]
    have hbad : ∀ {i : Nat}, i < L.length → okG (L.getD i edft) = false → ToNamesD b = ([], 150) := fun hi h => by
      rw [hD, if_neg]
      rintro ⟨h1, _⟩
      rw [List.all_eq_true.1 h1 _ (gd_mem L edft _ hi)] at h
      cases h
    refine ⟨fun y z => 0 ≤ y.1 ∧ y.1 ≤ L.length ∧ z.2.2.2.1 = L ∧ z.2.2.2.2.1 = (L.take y.1.toNat).map genE ∧ ∀ x ∈ L.take y.1.toNat, okG x = true, fun y _ => ((L.length : Int) - y.1).toNat, ⟨Int.le_refl 0, by simp only; omega, rfl, by simp, by simp⟩, ?_⟩
    rintro ⟨i, _⟩ ⟨⟨z1, _⟩, z2, ⟨z3, _⟩, row, acc, oth, _⟩ _ _ ⟨h0, h1, h2, h3, h4⟩
    simp only at h0 h1 h2 h3 h4 ⊢
    simp only [h2]
    have hal : acc.length = i.toNat := by rw [h3, List.length_map, List.length_take]; omega
    refine ⟨fun hi => ?_, fun hi => ?_⟩
    . have hmem := gd_mem L edft i.toNat (by omega)
      have hml := hLl.2 _ hmem
      refine ⟨⟨h0, hi⟩, by decide, (hof.2.1 _ hmem).1, ?_, fun _ _ h => ⟨by decide, ?_⟩⟩
      . rintro ⟨k, s, _⟩ _ ⟨hok, e2⟩
        simp only at e2 ⊢
        have hok : okE (L.getD i.toNat edft) = true := hok
        have e2 : (k, s) = genE (L.getD i.toNat edft) := e2
        obtain ⟨rfl, rfl⟩ := Prod.mk.inj e2
        refine ⟨by omega, ?_⟩
        rintro ⟨y, _⟩ _ e3
        simp only at e3 ⊢
        refine ⟨fun _ hy => ?_, fun _ _ hy => ⟨by decide, ?_⟩⟩
        . rw [wrapM (i + 1) (by omega) (by omega)]
          refine ⟨by decide, by omega, by omega, ⟨by omega, by omega, trivial, ?_, ?_⟩, by omega⟩
          . rw [show (i + 1).toNat = i.toNat + 1 by omega, map_take _ L edft i.toNat (by omega), h3]
            rfl
          . rw [show (i + 1).toNat = i.toNat + 1 by omega]
            refine all_take edft (by omega) h4 ?_
            rw [okG, hok, Bool.true_and]
            exact e3.symm.trans hy
        . refine (hbad (i := i.toNat) (by omega) ?_).symm
          rw [okG, hok, Bool.true_and]
          exact e3.symm.trans hy
      . refine (hbad (i := i.toNat) (by omega) ?_).symm
        have h : okE (L.getD i.toNat edft) = false := h
        rw [okG, h, Bool.false_and]
    . rw [take_all (by omega)] at h3 h4
      have hall : L.all okG = true := List.all_eq_true.2 h4
      have hlen : L.length = acc.length := by rw [h3, List.length_map]
      have hne : L ≠ [] ↔ 0 < (acc.length : Int) := by
        rw [← hlen]
        constructor
        . intro h; have := List.length_pos_iff.2 h; omega
        . intro h hc; rw [hc] at h; exact absurd h (by decide)
      rw [← h3, hall, hlen] at hD
      refine ⟨fun _ h => ?_, fun _ _ h => ⟨by decide, ?_⟩⟩
      . rw [hD, if_pos ⟨rfl, hne.2 h.1, by omega⟩]
      . rw [hD, if_neg]
        rintro ⟨_, hc, hc2⟩
        rw [decide_eq_true (hne.1 hc), decide_eq_true (show (acc.length : Int) ≤ 16 by omega)] at h
        cases h
  . rw [ToNamesD, if_neg]
    rintro ⟨h1, _⟩
    rw [h] at h1; cases h1
theorem h21 : c_ext_ToNames.ok Tryz.prog GL 21 := con_ok (H := {}) (mkEnv_ok (gl := GL) (l := [(61, i61)]) (q := []) (d := []) _ tyOk (by kernel_rfl) ⟨i61_ok, trivial⟩ trivial trivial) (by kernel_rfl) (by kernel_rfl) (Eq.mp e21 k21)
def t51 : Prop :=
  ∀ (x : q5), (q154 x) -> lenB x.1 <= q333 -> lenB x.1 <= q79 /\ (∀ (y : q21), (q183 y) -> (y.1, y.2.1, y.2.2.1) = takeD x.1 -> q67 <= q63 /\ lenB y.1.2 <= q79 /\ (∀ (y_1 : q23), (q204 y_1)
  -> y_1.1 = List.map (fun (x : q22) => x.2) (rowD y.1.2).1 /\ y_1.2.1 = List.map (fun (x : q22) => x.1) (rowD y.1.2).1 /\ (y_1.2.2.1, y_1.2.2.2.1) = (rowD y.1.2).2 -> y_1.1 = insL x.1) /\
  True) /\ True
theorem e51 : t51 = Con.vc c_r15_Inside GL (mkEnvO ty [(53, conSem c_r01_Take), (52, conSem c_r01_Row)] [] [] [0, 2, 3, 6] [1000000]) {} Tryz.f51.ntmps Tryz.f51.results.toList (bodyOf Tryz.f51) := by kernel_rfl
theorem k51 : t51 := by
  unfold t51
  delta q5 q154 q333 q79 q21 q183 q67 q63 q23 q204 q22 wyZ q392 wiZ q442 q443 q483 q506 q499
  rintro ⟨b, _⟩ hx hp
  have hp : b.length ≤ 2000000 := hp
  try dsimp +instances only [dft_int, dft_sl, dft_str]
  simp only [true_and, and_true, eq_self_iff_true, implies_true, reduceCtorEq, false_implies, true_implies, decide_eq_true_eq, decide_eq_false_iff_not, beq_self_eq_true, Bool.not_eq_true', ne_eq, Decidable.not_not, List.nil_append, List.length_singleton, List.length_cons, List.length_nil, Nat.zero_add, Nat.add_zero, Nat.mul_one, and_self, beq_iff_eq, Bool.not_true, Bool.not_false, Bool.not_eq_false', Bool.cond_false_right, Bool.and_eq_true, imp_self, Bool.not_eq_true, Bool.cond_true_left, Bool.or_eq_true]
  refine ⟨by show b.length ≤ _; omega, ?_⟩
  rintro ⟨⟨t, c⟩, n, f, _⟩ _ e
  simp only at e ⊢
  have hc := takeD_len b
  rw [← e] at hc
  simp only at hc
  refine ⟨by decide, by show c.length ≤ _; omega, ?_⟩
  rintro ⟨l, q, n2, f2, _⟩ _ ⟨h1, h2, h3⟩
  simp only at h1 ⊢
  rw [h1, insL, ← e]
theorem h51 : c_r15_Inside.ok Tryz.prog GL 51 := conO_ok (H := {}) (mkEnvO_ok (gl := GL) (l := [(53, conSem c_r01_Take), (52, conSem c_r01_Row)]) (q := []) (d := []) _ [1000000] tyOk (by kernel_rfl) ⟨h53.call, h52.call, trivial⟩ trivial trivial) (by kernel_rfl) (by kernel_rfl) (Eq.mp e51 k51)
def t60 : Prop :=
  ∀ (x : q0), (q266 x) -> lenI x.1 <= (19 : Nat) -> q65 < q36 /\ (q65 + List.length x.1) * q369 <= q153 /\ q65 + List.length x.1 <= q152 /\ q65 < q36 /\ (List.length ([] ++ x.1) + List.length
  [x.2.1]) * q369 <= q153 /\ List.length ([] ++ x.1) + List.length [x.2.1] <= q152 /\ True /\ (∀ (y : q0), (q218 y) -> (y.1, y.2.1) = EncO ([] ++ x.1 ++ [x.2.1]) -> (q238 y) /\ (∀ (y_1 : q5),
  (q154 y_1) -> y_1.1 = putB (q68, y.1) -> y_1.1 = putB (q68, (EncO (x.1 ++ [x.2.1])).1)) /\ True) /\ True
theorem e60 : t60 = Con.vc c_r15_oid GL (mkEnvO ty [(110, conSem c_r03_Encode), (45, conSem c_r15_Put)] [] [] [0, 1, 4, 5] [1000000]) {} Tryz.f60.ntmps Tryz.f60.results.toList (bodyOf Tryz.f60) := by kernel_rfl
theorem k60 : t60 := by
  unfold t60
  delta q0 q266 q65 q36 q369 q153 q152 q218 q238 q5 q154 q68 q443 wiZ wyZ q376 q384 q483
  rintro ⟨a, n, _⟩ hx hp
  have hp : a.length ≤ 19 := hp
  try dsimp +instances only [dft_int, dft_sl, dft_str]
  simp only [true_and, and_true, eq_self_iff_true, implies_true, reduceCtorEq, false_implies, true_implies, decide_eq_true_eq, decide_eq_false_iff_not, beq_self_eq_true, Bool.not_eq_true', ne_eq, Decidable.not_not, List.nil_append, List.length_singleton, List.length_cons, List.length_nil, Nat.zero_add, Nat.add_zero, Nat.mul_one, and_self, beq_iff_eq, Bool.not_true, Bool.not_false, Bool.not_eq_false', Bool.cond_false_right, Bool.and_eq_true, imp_self, Bool.not_eq_true, Bool.cond_true_left, Bool.or_eq_true]
  refine ⟨by decide, by omega, by omega, by decide, by omega, by omega, ?_⟩
  rintro ⟨c, f, _⟩ _ e
  simp only at e ⊢
  have hc : c.length ≤ 105 := by
    have h1 := encO_len (a ++ [n])
    have h2 : (a ++ [n]).length = a.length + 1 := by simp
    have h3 : c = (EncO (a ++ [n])).1 := congrArg Prod.fst e
    rw [h3, EncO]
    split
    . simp only; omega
    . simp
  refine ⟨⟨by decide, by decide, by show c.length ≤ _; omega⟩, ?_⟩
  rintro ⟨d, _⟩ _ e2
  simp only at e2 ⊢
  rw [e2, ← e]
theorem h60 : c_r15_oid.ok Tryz.prog GL 60 := conO_ok (H := {}) (mkEnvO_ok (gl := GL) (l := [(110, conSem c_r03_Encode), (45, conSem c_r15_Put)]) (q := []) (d := []) _ [1000000] tyOk (by kernel_rfl) ⟨h110.call, h45.call, trivial⟩ trivial trivial) (by kernel_rfl) (by kernel_rfl) (Eq.mp e60 k60)
def t67 : Prop :=
  ∀ (x : q5), (q154 x) -> True -> True /\ (∀ (y : q0), (q266 y) -> (y.1, y.2.1) = DecD x.1 -> (decide ((lnZ y.1) = q34) = true -> (-1 : Int) = lastL x.1) /\ (decide ((lnZ y.1) = q34) = false
  -> (q34 <= wrZ ((lnZ y.1) - q66) /\ wrZ ((lnZ y.1) - q66) < (lnZ y.1)) /\ List.getD y.1 (Int.toNat (wrZ ((lnZ y.1) - q66))) q215 = lastL x.1)) /\ True
theorem e67 : t67 = Con.vc c_r15_last GL (mkEnvO ty [(115, conSem c_r03_Decode)] [] [] [0, 2, 3, 12] [1000000]) {} Tryz.f67.ntmps Tryz.f67.results.toList (bodyOf Tryz.f67) := by kernel_rfl
theorem k67 : t67 := by
  unfold t67
  delta q5 q154 q0 q266 lnZ q34 wrZ q66 q215 wyZ q443 wiZ q483
  rintro ⟨b, _⟩ hx hp
  try dsimp +instances only [dft_int, dft_sl, dft_str]
  simp only [true_and, and_true, eq_self_iff_true, implies_true, reduceCtorEq, false_implies, true_implies, decide_eq_true_eq, decide_eq_false_iff_not, beq_self_eq_true, Bool.not_eq_true', ne_eq, Decidable.not_not, List.nil_append, List.length_singleton, List.length_cons, List.length_nil, Nat.zero_add, Nat.add_zero, Nat.mul_one, and_self, beq_iff_eq, Bool.not_true, Bool.not_false, Bool.not_eq_false', Bool.cond_false_right, Bool.and_eq_true, imp_self, Bool.not_eq_true, Bool.cond_true_left, Bool.or_eq_true]
  rintro ⟨m, f, _⟩ _ e
  simp only at e ⊢
  have hm : m.length ≤ 20 := by have := decD_len b; rw [← e] at this; exact this
  have hL : lastL b = if m = [] then -1 else m.getD (m.length - 1) 0 := by rw [lastL, ← e]
  refine ⟨fun h => ?_, fun h => ?_⟩
  . rw [hL, if_pos (List.length_eq_zero_iff.1 (by omega))]
  . rw [hL, if_neg (fun hc => h (by rw [hc]; rfl)), wrapM _ (by omega) (by omega)]
    refine ⟨⟨by omega, by omega⟩, ?_⟩
    congr 1; omega
theorem h67 : c_r15_last.ok Tryz.prog GL 67 := conO_ok (H := {}) (mkEnvO_ok (gl := GL) (l := [(115, conSem c_r03_Decode)]) (q := []) (d := []) _ [1000000] tyOk (by kernel_rfl) ⟨h115.call, trivial⟩ trivial trivial) (by kernel_rfl) (by kernel_rfl) (Eq.mp e67 k67)
def t59 : Prop :=
  ∀ (x : List Int × Int × Int × Unit), (Kd.wf q203 x.1 /\ wiZ x.2.1 /\ wiZ x.2.2.1 /\ True) -> True -> ∃ (I : q7), ∃ (μ : q8), (x.1 = x.1 /\ x.2.1 = x.2.1 /\ x.2.2.1 = x.2.2.1 /\ I (q34,
  false, ()) ()) /\ ∀ (y : q9) (z : Unit), (q78 y) -> True -> I y z -> (decide (y.1 < (lnZ x.1)) = true -> (q34 <= y.1 /\ y.1 < (lnZ x.1)) /\ (q341 x y) /\ (q341 x y) /\ (decide (q416 x y) =
  false -> (q354 x y) = true /\ (q354 x y) = true /\ (q34 <= y.1 /\ y.1 < (lnZ x.1)) /\ True) /\ (decide (q416 x y) = false -> (q354 x y) = true /\ True) /\ (q341 x y) /\ (q336 x y) /\ (q339
  x y) /\ ((q340 x y) = true -> false = unlikeK x.1 x.2.1 x.2.2.1) /\ ((q340 x y) = false -> ∃ (I_1 : q7), ∃ (μ_1 : q8), (Value.bool false = Value.bool false /\ Value.bool true = Value.bool
  true /\ y.1 = y.1 /\ x.1 = x.1 /\ x.2.1 = x.2.1 /\ x.2.2.1 = x.2.2.1 /\ I_1 (q34, y.2.1, ()) ()) /\ ∀ (y_1 : q9) (z_1 : Unit), (q78 y_1) -> True -> I_1 y_1 z_1 -> (decide (y_1.1 < y.1) =
  true -> (q34 <= y_1.1 /\ y_1.1 < (lnZ x.1)) /\ (q34 <= y.1 /\ y.1 < (lnZ x.1)) /\ (decide (List.getD x.1 (q112 y_1) q215 = List.getD x.1 (q112 y) q215) = true -> false = unlikeK x.1 x.2.1
  x.2.2.1) /\ (decide (List.getD x.1 (q112 y_1) q215 = List.getD x.1 (q112 y) q215) = false -> Value.bool false = Value.bool false /\ Value.bool true = Value.bool true /\ y.1 = y.1 /\ x.1 =
  x.1 /\ x.2.1 = x.2.1 /\ x.2.2.1 = x.2.2.1 /\ I_1 (wrZ (q80 y_1), y_1.2.1, ()) () /\ μ_1 (wrZ (q80 y_1), y_1.2.1, ()) () < μ_1 y_1 z_1)) /\ (decide (y_1.1 < y.1) = false -> x.1 = x.1 /\
  x.2.1 = x.2.1 /\ x.2.2.1 = x.2.2.1 /\ I (wrZ (q80 y), y_1.2.1, ()) () /\ μ (wrZ (q80 y), y_1.2.1, ()) () < μ y z))) /\ (decide (y.1 < (lnZ x.1)) = false -> true = unlikeK x.1 x.2.1 x.2.2.1)
theorem e59 : t59 = Con.vc c_r15_unlike GL (mkEnvO ty [] [] [] [0, 1, 2, 6, 7, 8, 12, 28, 31, 42] [1000000]) {} Tryz.f59.ntmps Tryz.f59.results.toList (bodyOf Tryz.f59) := by kernel_rfl
theorem k59 : t59 := by
  unfold t59
  delta q203 wiZ q7 q8 q34 q9 q78 lnZ q341 q416 q354 q336 q339 q340 q112 q215 wrZ q80 q483 wbZ q475 q485 q461 q444 q412
  rintro ⟨l, lo, up, _⟩ hx hp
  have hl : l.length ≤ 9223372036854775807 := hx.1.1
  try dsimp +instances only [dft_int, dft_sl, dft_str]
  simp only [true_and, and_true, eq_self_iff_true, implies_true, reduceCtorEq, false_implies, true_implies, decide_eq_true_eq, decide_eq_false_iff_not, beq_self_eq_true, Bool.not_eq_true', ne_eq, Decidable.not_not, List.nil_append, List.length_singleton, List.length_cons, List.length_nil, Nat.zero_add, Nat.add_zero, Nat.mul_one, and_self, beq_iff_eq, Bool.not_true, Bool.not_false, Bool.not_eq_false', Bool.cond_false_right, Bool.and_eq_true, imp_self, Bool.not_eq_true, Bool.cond_true_left, Bool.or_eq_true]
  refine ⟨fun y _ => 0 ≤ y.1 ∧ y.1 ≤ l.length ∧ unlikeK (l.take y.1.toNat) lo up = true, fun y _ => ((l.length : Int) - y.1).toNat, ⟨Int.le_refl 0, by simp only; omega, by simp [unlike_nil]⟩, ?_⟩
  rintro ⟨i, r, _⟩ _ _ ⟨h0, h1, h2⟩
  simp only at h0 h1 h2 ⊢
  refine ⟨fun hi => ?_, fun hi => ?_⟩
  . have hs := unlike_step (l := l) (i := i.toNat) (by omega) lo up h2
    refine ⟨⟨h0, hi⟩, fun h => ⟨h, h, h0, hi⟩, fun h => ?_, fun h => ?_⟩
    . refine (unlike_bad (i := i.toNat + 1) (hs.trans ?_)).symm
      rcases h with h | h
      . rw [decide_eq_false (show ¬ lo ≤ l.getD i.toNat 0 by omega), Bool.false_and]
      . rw [decide_eq_false (show ¬ l.getD i.toNat 0 ≤ up by omega), Bool.false_and, Bool.and_false]
    . obtain ⟨h3, h4⟩ := Bool.or_eq_false_iff.1 h
      have h3 := of_decide_eq_false h3
      have h4 := of_decide_eq_false h4
      rw [decide_eq_true (show lo ≤ l.getD i.toNat 0 by omega), decide_eq_true (show l.getD i.toNat 0 ≤ up by omega), Bool.true_and, Bool.true_and] at hs
      refine ⟨fun y _ => 0 ≤ y.1 ∧ y.1 ≤ i ∧ l.getD i.toNat 0 ∉ l.take y.1.toNat, fun y _ => (i - y.1).toNat, ⟨Int.le_refl 0, h0, by simp⟩, ?_⟩
      rintro ⟨k, r2, _⟩ _ _ ⟨g0, g1, g2⟩
      simp only at g0 g1 g2 ⊢
      refine ⟨fun hk => ⟨⟨g0, by omega⟩, ⟨h0, hi⟩, fun h5 => ?_, fun h5 => ?_⟩, fun hk => ?_⟩
      . have hm : l.getD i.toNat 0 ∈ l.take i.toNat := by
          rw [← h5]
          have h6 : k.toNat < (l.take i.toNat).length := by rw [List.length_take]; omega
          have h7 := gd_mem (l.take i.toNat) 0 k.toNat h6
          have h8 : (l.take i.toNat).getD k.toNat 0 = l.getD k.toNat 0 := by
            rw [List.getD_eq_getElem?_getD, List.getD_eq_getElem?_getD, List.getElem?_take, if_pos (by omega)]
          rw [← h8]; exact h7
        rw [decide_eq_false (fun hc => hc hm)] at hs
        exact (unlike_bad hs).symm
      . rw [wrapM (k + 1) (by omega) (by omega)]
        refine ⟨⟨by omega, by omega, ?_⟩, by omega⟩
        rw [show (k + 1).toNat = k.toNat + 1 by omega, ntake_snoc l k.toNat (by omega)]
        intro hm
        rcases List.mem_append.1 hm with hm | hm
        . exact g2 hm
        . exact h5 (List.mem_singleton.1 hm).symm
      . have e : k = i := by omega
        subst e
        rw [decide_eq_true g2] at hs
        rw [wrapM (k + 1) (by omega) (by omega)]
        exact ⟨⟨by omega, by omega, by rw [show (k + 1).toNat = k.toNat + 1 by omega]; exact hs⟩, by omega⟩
  . rw [take_all (by omega)] at h2
    exact h2.symm
theorem h59 : c_r15_unlike.ok Tryz.prog GL 59 := conO_ok (H := {}) (mkEnvO_ok (gl := GL) (l := []) (q := []) (d := []) _ [1000000] tyOk (by kernel_rfl) trivial trivial trivial) (by kernel_rfl) (by kernel_rfl) (Eq.mp e59 k59)
def t20 : Prop :=
  ∀ (x : q5), (q213 x) -> True -> (decide (q61 x) = false -> True) /\ (q286 x) /\ (q286 x) /\ (decide (q61 x) = false -> (decide ((lnZ x.1) < q412) == false) = true) /\ ((q355 x) = false ->
  True) /\ ((q355 x) = false -> ((q355 x) == false) = true /\ True /\ (∀ (y : q4), (q41 y) -> y.1 = unlikeK x.1 q66 (127 : Int) -> ((!y.1) = true -> ([], q346) = PurposesD x.1) /\ ((!y.1) =
  false -> ∃ (I : q17), ∃ (μ : q18), (Value.bool false = Value.bool false /\ q34 = q34 /\ Value.slice none q65 q65 = Value.slice none q65 q65 /\ x.1 = x.1 /\ I (q34, ()) ([], ())) /\ ∀ (y :
  q1) (z : q5), (q30 y) -> (q154 z) -> I y z -> (decide (y.1 < (lnZ x.1)) = true -> (q34 <= y.1 /\ y.1 < (lnZ x.1)) /\ lenI [q66, q70, q68, q66, (5 : Int), (5 : Int), (7 : Int), q70] <= (19 :
  Nat) /\ (∀ (y_1 : q5), (q154 y_1) -> y_1.1 = putB (q68, (EncO ([q66, q70, q68, q66, (5 : Int), (5 : Int), (7 : Int), q70] ++ [List.getD x.1 (q367 y) q215])).1) -> q65 < q36 /\ (q224 z y_1)
  * q36 <= q153 /\ List.length z.1 + List.length y_1.1 <= q152 /\ Value.bool false = Value.bool false /\ q34 = q34 /\ Value.slice none q65 q65 = Value.slice none q65 q65 /\ x.1 = x.1 /\ I
  (wrZ (q223 y), ()) (z.1 ++ y_1.1, ()) /\ μ (wrZ (q223 y), ()) (z.1 ++ y_1.1, ()) < μ y z) /\ True) /\ (decide (y.1 < (lnZ x.1)) = false -> (q34 <= q240 /\ q240 <= q384 /\ lenB z.1 <= q193)
  /\ (∀ (y : q5), (q154 y) -> y.1 = putB (q240, z.1) -> (y.1, q34) = PurposesD x.1) /\ True))) /\ True) /\ ((q355 x) = !false -> ([], q346) = PurposesD x.1)
theorem e20 : t20 = Con.vc c_r15_Purposes GL (mkEnvO ty [(59, conSem c_r15_unlike), (60, conSem c_r15_oid), (45, conSem c_r15_Put)] [] [] [0, 2, 3, 4, 5, 18, 22] [1000000]) {} Tryz.f20.ntmps Tryz.f20.results.toList (bodyOf Tryz.f20) := by kernel_rfl
theorem k20 : t20 := by
  unfold t20
  delta q5 q213 q61 q286 lnZ q412 q355 q4 q41 q66 q346 q17 q18 q34 q65 q1 q30 q154 q70 q68 q367 q215 q36 q224 q153 q152 wrZ q223 q240 q384 q193 q443 wbZ wiZ wyZ q483
  rintro ⟨l, _⟩ hx hp
  try dsimp +instances only [dft_int, dft_sl, dft_str]
  simp only [true_and, and_true, eq_self_iff_true, implies_true, reduceCtorEq, false_implies, true_implies, decide_eq_true_eq, decide_eq_false_iff_not, beq_self_eq_true, Bool.not_eq_true', ne_eq, Decidable.not_not, List.nil_append, List.length_singleton, List.length_cons, List.length_nil, Nat.zero_add, Nat.add_zero, Nat.mul_one, and_self, beq_iff_eq, Bool.not_true, Bool.not_false, Bool.not_eq_false', Bool.cond_false_right, Bool.and_eq_true, imp_self, Bool.not_eq_true, Bool.cond_true_left, Bool.or_eq_true]
  refine ⟨fun h => ⟨h, ?_⟩, fun h => ?_⟩
  . obtain ⟨q1, q2⟩ := Bool.or_eq_false_iff.1 h
    have q1 := of_decide_eq_false q1
    have q2 := of_decide_eq_false q2
    have hne : l ≠ [] := fun e => q1 (by rw [e]; decide)
    rintro ⟨y, _⟩ _ e
    simp only at e ⊢
    refine ⟨fun hy => ?_, fun hy => ?_⟩
    . rw [PurposesD, if_pos (.inr (.inr (e.symm.trans hy)))]
    . have hu : unlikeK l 1 127 = true := e.symm.trans hy
      have hin := unlike_in hu
      have hP : PurposesD l = (putB (48, l.flatMap purB), 0) := by
        rw [PurposesD, if_neg]
        rintro (h | h | h)
        . exact hne h
        . omega
        . rw [hu] at h; cases h
      have hfl := flat_le purB 60 l (fun n _ => purB_len n)
      rw [hP]
      refine ⟨fun y z => 0 ≤ y.1 ∧ y.1 ≤ l.length ∧ z.1 = (l.take y.1.toNat).flatMap purB, fun y _ => ((l.length : Int) - y.1).toNat, ⟨Int.le_refl 0, by simp only; omega, rfl⟩, ?_⟩
      rintro ⟨i, _⟩ ⟨zs, _⟩ _ _ ⟨h0, h1, h3⟩
      simp only at h0 h1 h3 ⊢
      have hzl : zs.length ≤ 60 * i.toNat := by
        have := flat_le purB 60 (l.take i.toNat) (fun n _ => purB_len n)
        rw [h3]
        have h4 : (l.take i.toNat).length = i.toNat := by rw [List.length_take]; omega
        rw [h4] at this
        exact this
      refine ⟨fun hi => ⟨⟨h0, hi⟩, by decide, ?_⟩, fun hi => ?_⟩
      . rintro ⟨d, _⟩ _ e2
        simp only at e2 ⊢
        have hm := hin _ (gd_mem l 0 i.toNat (by omega))
        have hmay : mayO (purA ++ [l.getD i.toNat 0]) = true := pur_may (by omega) hm.2
        have e3 : EncO ([1, 3, 6, 1, 5, 5, 7, 3] ++ [l.getD i.toNat 0]) = (encO (purA ++ [l.getD i.toNat 0]), 0) := if_pos hmay
        rw [e3] at e2
        have e4 : d = purB (l.getD i.toNat 0) := e2
        have hdl := purB_len (l.getD i.toNat 0)
        rw [← e4] at hdl
        rw [wrapM (i + 1) (by omega) (by omega)]
        refine ⟨by decide, by omega, by omega, ⟨by omega, by omega, ?_⟩, by omega⟩
        rw [show (i + 1).toNat = i.toNat + 1 by omega, flat_take purB l 0 i.toNat (by omega), h3, e4]
      . rw [take_all (by omega)] at h3
        refine ⟨⟨by decide, by decide, by show zs.length ≤ _; omega⟩, ?_⟩
        rintro ⟨d, _⟩ _ e4
        simp only at e4 ⊢
        rw [e4, h3]
  . rw [PurposesD, if_pos]
    rcases h with h | h
    . exact .inl (List.length_eq_zero_iff.1 (by omega))
    . exact .inr (.inl (by omega))
theorem h20 : c_r15_Purposes.ok Tryz.prog GL 20 := conO_ok (H := {}) (mkEnvO_ok (gl := GL) (l := [(59, conSem c_r15_unlike), (60, conSem c_r15_oid), (45, conSem c_r15_Put)]) (q := []) (d := []) _ [1000000] tyOk (by kernel_rfl) ⟨h59.call, h60.call, h45.call, trivial⟩ trivial trivial) (by kernel_rfl) (by kernel_rfl) (Eq.mp e20 k20)
def t24 : Prop :=
  ∀ (x : q5), (q154 x) -> lenB x.1 <= q333 -> lenB x.1 <= q333 /\ (∀ (y : q15), (q349 y) -> y.1 = insL x.1 -> ∃ (I : q17), ∃ (μ : q18), (q34 = q34 /\ Value.slice none q65 q65 = Value.slice
  none q65 q65 /\ x.1 = x.1 /\ y.1 = y.1 /\ I (q34, ()) ([], ())) /\ ∀ (y_1 : q1) (z : q5), (q30 y_1) -> (q213 z) -> I y_1 z -> (decide (y_1.1 < (lnZ y.1)) = true -> (q34 <= y_1.1 /\ y_1.1 <
  (lnZ y.1)) /\ True /\ (∀ (y_2 : q1), (q30 y_2) -> y_2.1 = lastL (q472 y y_1).2 -> q65 < q36 /\ (List.length z.1 + List.length [y_2.1]) * q369 <= q153 /\ List.length z.1 + List.length
  [y_2.1] <= q152 /\ q34 = q34 /\ Value.slice none q65 q65 = Value.slice none q65 q65 /\ x.1 = x.1 /\ y.1 = y.1 /\ I (wrZ (q223 y_1), ()) (z.1 ++ [y_2.1], ()) /\ μ (wrZ (q223 y_1), ()) (z.1
  ++ [y_2.1], ()) < μ y_1 z) /\ True) /\ (decide (y_1.1 < (lnZ y.1)) = false -> True /\ (∀ (y : q0), (q218 y) -> (y.1, y.2.1) = PurposesD z.1 -> (q255 y) /\ (q252 y) /\ (q255 y) /\ (q252 y)
  /\ (q251 y) /\ (q253 y) /\ ((q254 y x) = true -> ([], q346) = ToPurposesD x.1) /\ ((q254 y x) = false -> (z.1, q34) = ToPurposesD x.1)) /\ True)) /\ True
theorem e24 : t24 = Con.vc c_r15_ToPurposes GL (mkEnvO ty [(51, conSem c_r15_Inside), (67, conSem c_r15_last), (20, conSem c_r15_Purposes)] [] [] [0, 2, 3, 4, 5, 6, 7, 8, 14, 39] [1000000]) {} Tryz.f24.ntmps Tryz.f24.results.toList (bodyOf Tryz.f24) := by kernel_rfl
theorem k24 : t24 := by
  unfold t24
  delta q5 q154 q333 q15 q349 q17 q18 q34 q65 q1 q30 q213 lnZ q472 q36 q369 q153 q152 wrZ q223 q0 q218 q255 q252 q251 q253 q254 q346 wyZ q442 wiZ q443 q501 q412 q376 q499 q483 q506
  rintro ⟨b, _⟩ hx hp
  have hp : b.length ≤ 2000000 := hp
  have hb : Bys b := sl_bys hx.1
  try dsimp +instances only [dft_int, dft_sl, dft_str]
  simp only [true_and, and_true, eq_self_iff_true, implies_true, reduceCtorEq, false_implies, true_implies, decide_eq_true_eq, decide_eq_false_iff_not, beq_self_eq_true, Bool.not_eq_true', ne_eq, Decidable.not_not, List.nil_append, List.length_singleton, List.length_cons, List.length_nil, Nat.zero_add, Nat.add_zero, Nat.mul_one, and_self, beq_iff_eq, Bool.not_true, Bool.not_false, Bool.not_eq_false', Bool.cond_false_right, Bool.and_eq_true, imp_self, Bool.not_eq_true, Bool.cond_true_left, Bool.or_eq_true]
  have hdE : ((Kd.int IntKind.i64).pair (Kd.int IntKind.u8).sl).dft = edft := rfl
  try simp only [hdE]
  refine ⟨hp, ?_⟩
  rintro ⟨L, _⟩ _ e
  simp only at e ⊢
  have hLl : L.length ≤ 2000000 := by
    have h1 := (rowR_len (takeD b).1.2 (takeD b).1.2.length 0).1
    have h2 := takeD_len b
    rw [e, insL, List.length_map]
    unfold rowD
    omega
  have hD := purposes_ref hb (by omega)
  rw [← e] at hD
  refine ⟨fun y z => 0 ≤ y.1 ∧ y.1 ≤ L.length ∧ z.1 = (L.take y.1.toNat).map (fun x => lastL x.2), fun y _ => ((L.length : Int) - y.1).toNat, ⟨Int.le_refl 0, by simp only; omega, by simp⟩, ?_⟩
  rintro ⟨i, _⟩ ⟨acc, _⟩ _ _ ⟨h0, h1, h3⟩
  simp only at h0 h1 h3 ⊢
  have hal : acc.length = i.toNat := by rw [h3, List.length_map, List.length_take]; omega
  refine ⟨fun hi => ⟨⟨h0, hi⟩, ?_⟩, fun hi => ?_⟩
  . rintro ⟨n, _⟩ _ e2
    simp only at e2 ⊢
    rw [wrapM (i + 1) (by omega) (by omega)]
    refine ⟨by decide, by omega, by omega, ⟨by omega, by omega, ?_⟩, by omega⟩
    rw [show (i + 1).toNat = i.toNat + 1 by omega, map_take _ L edft i.toNat (by omega), h3, e2]
  . rw [take_all (by omega)] at h3
    rw [← h3] at hD
    rintro ⟨c, f, _⟩ _ e2
    simp only at e2 ⊢
    rw [← e2] at hD
    refine ⟨fun h => ?_, fun h => ?_⟩
    . rw [hD, if_neg]
      intro hc
      obtain ⟨rfl, rfl⟩ := Prod.mk.inj hc
      rcases h with h | h
      . exact h rfl
      . exact h rfl
    . obtain ⟨h4, h5⟩ := Bool.or_eq_false_iff.1 h
      have h4 : f = 0 := Classical.not_not.1 (of_decide_eq_false h4)
      have h5 : c = b := Classical.not_not.1 (of_decide_eq_false h5)
      rw [hD, if_pos (by rw [h4, h5])]
theorem h24 : c_r15_ToPurposes.ok Tryz.prog GL 24 := conO_ok (H := {}) (mkEnvO_ok (gl := GL) (l := [(51, conSem c_r15_Inside), (67, conSem c_r15_last), (20, conSem c_r15_Purposes)]) (q := []) (d := []) _ [1000000] tyOk (by kernel_rfl) ⟨h51.call, h67.call, h20.call, trivial⟩ trivial trivial) (by kernel_rfl) (by kernel_rfl) (Eq.mp e24 k24)
def t46 : Prop :=
  ∀ (x : q13), (wiZ x.1 /\ wsZ x.2.1 /\ True) -> q34 <= x.1 /\ x.1 <= (31 : Int) /\ lenB x.2.1 <= q333 -> (decide (x.1 = (4 : Int)) = true -> (q34 <= (164 : Int) /\ (164 : Int) <= q384 /\
  lenB x.2.1 <= q193) /\ (∀ (y : q5), (q154 y) -> y.1 = putB ((164 : Int), x.2.1) -> y.1 = genB (x.1, x.2.1)) /\ True) /\ (decide (x.1 = (4 : Int)) = false -> (q34 <= wrZ (q91 + x.1) /\ wrZ
  (q91 + x.1) <= q384 /\ lenB x.2.1 <= q193) /\ (∀ (y : q5), (q154 y) -> y.1 = putB (wrZ (q91 + x.1), x.2.1) -> y.1 = genB (x.1, x.2.1)) /\ True)
theorem e46 : t46 = Con.vc c_r15_general GL (mkEnvO ty [(45, conSem c_r15_Put)] [] [] [0, 1, 4, 6] [1000000]) {} Tryz.f46.ntmps Tryz.f46.results.toList (bodyOf Tryz.f46) := by kernel_rfl
theorem k46 : t46 := by
  unfold t46
  delta q13 wiZ wsZ q34 q333 q384 q193 q5 q154 wrZ q91 wyZ
  rintro ⟨k, s, _⟩ hx hp
  have hp : 0 ≤ k ∧ k ≤ 31 ∧ s.length ≤ 2000000 := hp
  try dsimp +instances only [dft_int, dft_sl, dft_str]
  simp only [true_and, and_true, eq_self_iff_true, implies_true, reduceCtorEq, false_implies, true_implies, decide_eq_true_eq, decide_eq_false_iff_not, beq_self_eq_true, Bool.not_eq_true', ne_eq, Decidable.not_not, List.nil_append, List.length_singleton, List.length_cons, List.length_nil, Nat.zero_add, Nat.add_zero, Nat.mul_one, and_self, beq_iff_eq, Bool.not_true, Bool.not_false, Bool.not_eq_false', Bool.cond_false_right, Bool.and_eq_true, imp_self, Bool.not_eq_true, Bool.cond_true_left, Bool.or_eq_true]
  refine ⟨fun h => ⟨⟨by decide, by decide, by show s.length ≤ _; omega⟩, ?_⟩, fun h => ?_⟩
  . rintro ⟨d, _⟩ _ e
    simp only at e ⊢
    rw [e, genB, elG, tagG, if_pos h]
  . rw [wrapM _ (by omega) (by omega)]
    refine ⟨⟨by omega, by omega, by show s.length ≤ _; omega⟩, ?_⟩
    rintro ⟨d, _⟩ _ e
    simp only at e ⊢
    rw [e, genB, elG, tagG, if_neg h]
theorem h46 : c_r15_general.ok Tryz.prog GL 46 := conO_ok (H := {}) (mkEnvO_ok (gl := GL) (l := [(45, conSem c_r15_Put)]) (q := []) (d := []) _ [1000000] tyOk (by kernel_rfl) ⟨h45.call, trivial⟩ trivial trivial) (by kernel_rfl) (by kernel_rfl) (Eq.mp e46 k46)
def t18 : Prop :=
  ∀ (x : q15), (q150 x) -> lenG x.1 <= q333 -> (decide ((lnZ x.1) < q66) = false -> True) /\ (decide ((lnZ x.1) < q66) = false -> (decide ((lnZ x.1) < q66) == false) = true /\ True) /\
  (decide ((lnZ x.1) < q66) = false -> (decide ((lnZ x.1) < q66) == false) = true /\ True) /\ (decide ((lnZ x.1) < q66) = false -> (decide ((lnZ x.1) < q66) == false) = true) /\ ((bif decide
  ((lnZ x.1) < q66) then true else decide ((16 : Int) < (lnZ x.1))) = true -> ([], q346) = NamesD x.1) /\ ((bif decide ((lnZ x.1) < q66) then true else decide ((16 : Int) < (lnZ x.1))) =
  false -> ∃ (I : Int × Int × Unit -> List Int × List Int × Unit -> Prop), ∃ (μ : Int × Int × Unit -> List Int × List Int × Unit -> Nat), (Value.bool false = Value.bool false /\ x.1 = x.1 /\
  I (q34, q34, ()) ([], [], ())) /\ ∀ (y : q6) (z : q2), (q89 y) -> (wyZ z.1 /\ wyZ z.2.1 /\ True) -> I y z -> (decide (y.1 < (lnZ x.1)) = true -> (q34 <= y.1 /\ y.1 < (lnZ x.1)) /\
  List.length (q352 x y).2 <= q149 /\ (∀ (y_1 : q4), (q41 y_1) -> y_1.1 = mayG (q352 x y).1 (q352 x y).2 -> ((!y_1.1) = true -> ([], q346) = NamesD x.1) /\ ((!y_1.1) = false -> (q34 <= y.1 /\
  y.1 < (lnZ x.1)) /\ (q34 <= y.1 /\ y.1 < (lnZ x.1)) /\ (q356 x y z I μ) /\ (q356 x y z I μ) /\ True)) /\ True) /\ (decide (y.1 < (lnZ x.1)) = false -> (q34 <= q240 /\ q240 <= q384 /\ lenB
  z.1 <= q193) /\ (∀ (y : q5), (q154 y) -> y.1 = putB (q240, z.1) -> (y.1, q34) = NamesD x.1) /\ True))
theorem e18 : t18 = Con.vc c_r15_Names GL (mkEnvO ty [(56, conSem c_r13_May), (46, conSem c_r15_general), (45, conSem c_r15_Put)] [] [] [0, 2, 3, 4, 5, 13, 17, 25] [1000000]) {} Tryz.f18.ntmps Tryz.f18.results.toList (bodyOf Tryz.f18) := by kernel_rfl
theorem k18 : t18 := by
  unfold t18
  delta q15 q150 q333 lnZ q66 q346 q34 q6 q2 q89 wyZ q352 q149 q4 q41 q356 q240 q384 q193 q5 q154 q410 wiZ q382 wbZ q376 q463 q391 q468 q477 q476 wrZ q412 q483 q489
  rintro ⟨l, _⟩ hx hp
  have hp : lenG l ≤ 2000000 := hp
  try dsimp +instances only [dft_int, dft_sl, dft_str]
  simp only [true_and, and_true, eq_self_iff_true, implies_true, reduceCtorEq, false_implies, true_implies, decide_eq_true_eq, decide_eq_false_iff_not, beq_self_eq_true, Bool.not_eq_true', ne_eq, Decidable.not_not, List.nil_append, List.length_singleton, List.length_cons, List.length_nil, Nat.zero_add, Nat.add_zero, Nat.mul_one, and_self, beq_iff_eq, Bool.not_true, Bool.not_false, Bool.not_eq_false', Bool.cond_false_right, Bool.and_eq_true, imp_self, Bool.not_eq_true, Bool.cond_true_left, Bool.or_eq_true]
  have hdG : ((Kd.int IntKind.i64).pair Kd.str).dft = gdft := rfl
  try simp only [hdG]
  refine ⟨fun h => ?_, fun h => ?_⟩
  . rw [NamesD, if_pos]
    rcases h with h | h
    . exact .inl (List.length_eq_zero_iff.1 (by omega))
    . exact .inr (.inl (by omega))
  . obtain ⟨q1, q2⟩ := Bool.or_eq_false_iff.1 h
    have q1 := of_decide_eq_false q1
    have q2 := of_decide_eq_false q2
    have hne : l ≠ [] := fun e => q1 (by rw [e]; decide)
    have hfl := genBs_len l
    refine ⟨fun y z => 0 ≤ y.1 ∧ y.1 ≤ l.length ∧ z.1 = (l.take y.1.toNat).flatMap genB ∧ ∀ g ∈ l.take y.1.toNat, mayG g.1 g.2 = true, fun y _ => ((l.length : Int) - y.1).toNat, ⟨Int.le_refl 0, by simp only; omega, rfl, by simp⟩, ?_⟩
    rintro ⟨i, r, _⟩ ⟨zs, z2, _⟩ _ _ ⟨h0, h1, h3, h4⟩
    simp only at h0 h1 h3 h4 ⊢
    refine ⟨fun hi => ?_, fun hi => ?_⟩
    . have hmem := gd_mem l gdft i.toNat (by omega)
      have hgl := sum_mem hmem
      have hfull : ((l.take (i.toNat + 1)).flatMap genB).length ≤ 3000000 := by
        have h7 : (l.take (i.toNat + 1)).flatMap genB ++ (l.drop (i.toNat + 1)).flatMap genB = l.flatMap genB := by
          rw [← List.flatMap_append, List.take_append_drop]
        have := congrArg List.length h7
        rw [List.length_append] at this
        omega
      refine ⟨⟨h0, hi⟩, by omega, ?_⟩
      rintro ⟨y, _⟩ _ e
      simp only at e ⊢
      refine ⟨fun hy => ?_, fun hy => ?_⟩
      . have ha : (l.all fun g => mayG g.1 g.2) = false := by
          cases ha : l.all fun g => mayG g.1 g.2 with
          | false => rfl
          | true =>
            have := List.all_eq_true.1 ha _ hmem
            rw [← e, hy] at this; cases this
        rw [NamesD, if_pos (.inr (.inr ha))]
      . have hmay : mayG (l.getD i.toNat gdft).1 (l.getD i.toNat gdft).2 = true := e.symm.trans hy
        have hk := may_kind' hmay
        have hkr : 0 ≤ (l.getD i.toNat gdft).1 ∧ (l.getD i.toNat gdft).1 ≤ 31 := by
          rcases hk with h | h | h | h <;> rw [h] <;> decide
        refine ⟨⟨h0, hi⟩, ⟨h0, hi⟩, ⟨hkr.1, hkr.2, by show (l.getD i.toNat gdft).2.length ≤ _; omega⟩, ?_⟩
        rintro ⟨d, _⟩ _ e4
        simp only at e4 ⊢
        have e5 : d = genB (l.getD i.toNat gdft) := e4
        have hft := flat_take genB l gdft i.toNat (by omega)
        rw [hft, ← h3, ← e5, List.length_append] at hfull
        rw [wrapM (i + 1) (by omega) (by omega)]
        refine ⟨by decide, by omega, by omega, ⟨by omega, by omega, ?_, ?_⟩, by omega⟩
        . rw [show (i + 1).toNat = i.toNat + 1 by omega, hft, h3, e5]
        . rw [show (i + 1).toNat = i.toNat + 1 by omega]
          exact all_take gdft (by omega) h4 hmay
    . rw [take_all (by omega)] at h3 h4
      have hall : (l.all fun g => mayG g.1 g.2) = true := List.all_eq_true.2 h4
      refine ⟨⟨by decide, by decide, by show zs.length ≤ _; rw [h3]; omega⟩, ?_⟩
      rintro ⟨d, _⟩ _ e4
      simp only at e4 ⊢
      rw [NamesD, if_neg, e4, h3]
      rintro (h | h | h)
      . exact hne h
      . omega
      . rw [hall] at h; cases h
theorem h18 : c_r15_Names.ok Tryz.prog GL 18 := conO_ok (H := {}) (mkEnvO_ok (gl := GL) (l := [(56, conSem c_r13_May), (46, conSem c_r15_general), (45, conSem c_r15_Put)]) (q := []) (d := []) _ [1000000] tyOk (by kernel_rfl) ⟨h56.call, h46.call, h45.call, trivial⟩ trivial trivial) (by kernel_rfl) (by kernel_rfl) (Eq.mp e18 k18)
def t22 : Prop :=
  ∀ (x : q5), (q154 x) -> lenB x.1 <= q333 -> lenB x.1 <= q333 /\ (∀ (y : q15), (q349 y) -> y.1 = insL x.1 -> ∃ (I : Int × Unit -> List q189 × Unit -> Prop), ∃ (μ : Int × Unit -> List q189 ×
  Unit -> Nat), (q34 = q34 /\ Value.slice none q65 q65 = Value.slice none q65 q65 /\ x.1 = x.1 /\ y.1 = y.1 /\ I (q34, ()) ([], ())) /\ ∀ (y_1 : q1) (z : q15), (q30 y_1) -> (q150 z) -> I y_1
  z -> (decide (y_1.1 < (lnZ y.1)) = true -> (q34 <= y_1.1 /\ y_1.1 < (lnZ y.1)) /\ (q34 <= y_1.1 /\ y_1.1 < (lnZ y.1)) /\ (((32 : Int) ≠ q34 /\ (((q417 z y y_1 x I μ) /\ True) /\ True) /\
  True) /\ (q357 z y y_1 x I μ) /\ True) /\ ((q357 z y y_1 x I μ) /\ ((((32 : Int) ≠ q376 /\ (q417 z y y_1 x I μ) /\ True) /\ True) /\ True) /\ True) /\ True) /\ (decide (y_1.1 < (lnZ y.1)) =
  false -> lenG z.1 <= q333 /\ (∀ (y : q0), (q218 y) -> (y.1, y.2.1) = NamesD z.1 -> (q255 y) /\ (q252 y) /\ (q255 y) /\ (q252 y) /\ (q251 y) /\ (q253 y) /\ ((q254 y x) = true -> ([], q346) =
  ToNamesD x.1) /\ ((q254 y x) = false -> (z.1, q34) = ToNamesD x.1)) /\ True)) /\ True
theorem e22 : t22 = Con.vc c_r15_ToNames GL (mkEnvO ty [(51, conSem c_r15_Inside), (18, conSem c_r15_Names)] [] [] [0, 2, 3, 4, 5, 6, 7, 8, 14, 46] [1000000]) {} Tryz.f22.ntmps Tryz.f22.results.toList (bodyOf Tryz.f22) := by kernel_rfl
theorem k22 : t22 := by
  unfold t22
  delta q5 q154 q333 q15 q349 q189 q34 q65 q1 q30 q150 lnZ q417 q357 q376 q0 q218 q255 q252 q251 q253 q254 q346 wyZ q442 wiZ q410 q482 q490 q477 q472 q476 q469 wrZ q464 q499 q483 q501 q506
  rintro ⟨b, _⟩ hx hp
  have hp : b.length ≤ 2000000 := hp
  have hb : Bys b := sl_bys hx.1
  try dsimp +instances only [dft_int, dft_sl, dft_str]
  simp only [true_and, and_true, eq_self_iff_true, implies_true, reduceCtorEq, false_implies, true_implies, decide_eq_true_eq, decide_eq_false_iff_not, beq_self_eq_true, Bool.not_eq_true', ne_eq, Decidable.not_not, List.nil_append, List.length_singleton, List.length_cons, List.length_nil, Nat.zero_add, Nat.add_zero, Nat.mul_one, and_self, beq_iff_eq, Bool.not_true, Bool.not_false, Bool.not_eq_false', Bool.cond_false_right, Bool.and_eq_true, imp_self, Bool.not_eq_true, Bool.cond_true_left, Bool.or_eq_true]
  have hdE : ((Kd.int IntKind.i64).pair (Kd.int IntKind.u8).sl).dft = edft := rfl
  try simp only [hdE]
  refine ⟨hp, ?_⟩
  rintro ⟨L, _⟩ _ e
  simp only at e ⊢
  have hLl : L.length ≤ 2000000 := by
    have h1 := (rowR_len (takeD b).1.2 (takeD b).1.2.length 0).1
    have h2 := takeD_len b
    rw [e, insL, List.length_map]
    unfold rowD
    omega
  have hsum := insL_sum hb
  rw [← e] at hsum
  have hD := names_ref hb (by omega)
  rw [← e] at hD
  refine ⟨fun y z => 0 ≤ y.1 ∧ y.1 ≤ L.length ∧ z.1 = (L.take y.1.toNat).map genE, fun y _ => ((L.length : Int) - y.1).toNat, ⟨Int.le_refl 0, by simp only; omega, by simp⟩, ?_⟩
  rintro ⟨i, _⟩ ⟨acc, _⟩ _ _ ⟨h0, h1, h3⟩
  simp only at h0 h1 h3 ⊢
  have hal : acc.length = i.toNat := by rw [h3, List.length_map, List.length_take]; omega
  refine ⟨fun hi => ?_, fun hi => ?_⟩
  . have htag := (hsum.2 _ (gd_mem L edft i.toNat (by omega))).1
    have ht0 := (tag_range htag).1
    rw [wrapM (i + 1) (by omega) (by omega), Int.tmod_eq_emod_of_nonneg ht0]
    refine ⟨⟨h0, hi⟩, ⟨h0, hi⟩, by decide, by decide, by omega, by omega, ⟨by omega, by omega, ?_⟩, by omega⟩
    rw [show (i + 1).toNat = i.toNat + 1 by omega, map_take _ L edft i.toNat (by omega), h3]
    rfl
  . rw [take_all (by omega)] at h3
    rw [← h3] at hD
    have hlg : lenG acc ≤ 2000000 := by
      have h7 : lenG acc = (L.flatMap (fun x => x.2)).length := by
        rw [h3, lenG, List.flatMap_map]; rfl
      rw [h7]; exact Nat.le_trans hsum.1 hp
    refine ⟨hlg, ?_⟩
    rintro ⟨c, f, _⟩ _ e2
    simp only at e2 ⊢
    rw [← e2] at hD
    refine ⟨fun h => ?_, fun h => ?_⟩
    . rw [hD, if_neg]
      intro hc
      obtain ⟨rfl, rfl⟩ := Prod.mk.inj hc
      rcases h with h | h
      . exact h rfl
      . exact h rfl
    . obtain ⟨h4, h5⟩ := Bool.or_eq_false_iff.1 h
      have h4 : f = 0 := Classical.not_not.1 (of_decide_eq_false h4)
      have h5 : c = b := Classical.not_not.1 (of_decide_eq_false h5)
      rw [hD, if_pos (by rw [h4, h5])]
theorem h22 : c_r15_ToNames.ok Tryz.prog GL 22 := conO_ok (H := {}) (mkEnvO_ok (gl := GL) (l := [(51, conSem c_r15_Inside), (18, conSem c_r15_Names)]) (q := []) (d := []) _ [1000000] tyOk (by kernel_rfl) ⟨h51.call, h18.call, trivial⟩ trivial trivial) (by kernel_rfl) (by kernel_rfl) (Eq.mp e22 k22)
end Go.Proofs.YtiofbnlbfmbodaaGreatDoor
end
