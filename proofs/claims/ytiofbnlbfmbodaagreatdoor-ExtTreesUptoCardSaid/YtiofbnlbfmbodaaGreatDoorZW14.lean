/- Texts of a verified walk, led together: Ext3tA, Ext3tW. -/
import Derived.Test.YtiofbnlbfmbodaaGreatDoorZW13
import Derived.Test.YtiofbnlbfmbodaaGreatDoorZV20
set_option linter.unusedVariables false
set_option linter.unusedSimpArgs false
section
namespace Go.Proofs.YtiofbnlbfmbodaaGreatDoor
open Go Go.Vc Go.Pl Go.Proofs
def c_ext_tag : Con := { args := [.dat I64], res := [.dat I64], pre := fun x => 0 ≤ x.1 ∧ x.1 ≤ 1000, post := fun x y => y.1 = tagG x.1 }
def c_ext_general : Con := { args := [.dat ET], res := [.dat I64, .dat .str], pre := fun x => isTagD x.1.1 = true, post := fun x y => okE x.1 = true ∧ (y.1, y.2.1) = genE x.1, pan := true, pt := 152, pk := .unit, ppost := fun x _ => okE x.1 = false }
def c_ext_trees : Con := { args := [.dat I64, .dat (.sl GK)], res := [.dat BY], pre := fun x => lenG x.2.1 ≤ LIM ∧ isTagD x.1 = true, post := fun x y => okTr x.2.1 = true ∧ y.1 = (subs x.1 x.2.1).flatMap putB, pan := true, pt := 152, pk := .unit, ppost := fun x _ => okTr x.2.1 = false }
def c_ext_Trees : Con := { args := [.dat (.pair (.sl GK) (.sl GK))], res := [.dat BY, .dat I64], pre := fun x => lenG x.1.1 ≤ LIM ∧ lenG x.1.2 ≤ LIM, post := fun x y => (y.1, y.2.1) = TreesD x.1 }
def c_ext_toTrees : Con := { args := [.dat (.sl ET), .dat I64], res := [.own 68 GK, .dat (.sl ET)], pre := fun x => lenEs x.1 ≤ LIM, post := fun x y => rdS x.1 x.2.1 = (y.1, y.2.1, true), pan := true, pt := 152, pk := .unit, ppost := fun x _ => (rdS x.1 x.2.1).2.2 = false }
def c_ext_ToTrees : Con := { args := [.dat BY], res := [.own 68 GK, .own 68 GK, .dat I64], pre := fun x => lenB x.1 ≤ LIM, post := fun x y => ((y.1, y.2.1), y.2.2.1) = ToTreesD x.1, agg := 2 }
def c_r15_Inside : Con := { args := [.dat BY], res := [.own 105 ET], pre := fun x => lenB x.1 ≤ LIM, post := fun x y => y.1 = insL x.1 }
def c_r15_general : Con := { args := [.dat I64, .dat .str], res := [.own 5 U8], pre := fun x => 0 ≤ x.1 ∧ x.1 ≤ 31 ∧ lenB x.2.1 ≤ LIM, post := fun x y => y.1 = genB (x.1, x.2.1) }
def c_r15_Trees : Con := { args := [.dat (.pair (.sl GK) (.sl GK))], res := [.dat BY, .dat I64], pre := fun x => lenG x.1.1 ≤ LIM ∧ lenG x.1.2 ≤ LIM, post := fun x y => (y.1, y.2.1) = TreesD x.1 }
def c_r15_SameTrees : Con := { args := [.dat (.pair (.sl GK) (.sl GK)), .dat (.pair (.sl GK) (.sl GK))], res := [.dat .bool], pre := fun _ => True, post := fun x y => y.1 = decide (x.1 = x.2.1) }
def c_r15_ToTrees : Con := { args := [.dat BY], res := [.dat (.pair (.sl GK) (.sl GK)), .dat I64], pre := fun x => lenB x.1 ≤ LIM, post := fun x y => (y.1, y.2.1) = ToTreesD x.1 }
end Go.Proofs.YtiofbnlbfmbodaaGreatDoor
end
section
namespace Go.Proofs.YtiofbnlbfmbodaaGreatDoor
open Go Go.Vc Go.Pl Go.Proofs
set_option maxHeartbeats 2000000
set_option linter.unusedVariables false
set_option linter.unusedSimpArgs false
abbrev q30 := ((List (Int × List Int) × List (Int × List Int)) × Unit)
abbrev q31 := (Int × Int × Unit -> Unit × List Int × List Int × Unit -> Prop)
abbrev q32 := (Int × Int × Unit -> Unit × List Int × List Int × Unit -> Nat)
abbrev q352 (p0 : q13) := (↑(BitVec.toNat (BitVec.ofInt (64 : Nat) p0.1.1 &&& BitVec.ofInt (64 : Nat) (31 : Int))) : Int)
abbrev q475 (p0 : Int × List (Int × List Int) × Unit) (p1 : q1) := (List.getD p0.2.1 (Int.toNat p1.1) (Kd.dft q500))
abbrev q353 (p0 : q1) (p1 : Int × List (Int × List Int) × Unit) (p2 : q1) (p3 : q15) (p4 : Int × Unit -> List (List Int) × Unit -> Prop) (p5 : Int × Unit -> List (List Int) × Unit -> Nat)
  := (((isTagD p0.1 = true /\ lenF [(q475 p1 p2).2] <= q420) /\ (∀ (y_4 : q5), (wyZ y_4.1 /\ True) -> y_4.1 = putB (p0.1, List.flatten [(q475 p1 p2).2]) -> (((isTagD q383 = true /\ lenF
  [y_4.1] <= q420) /\ (∀ (y_5 : q5), (wyZ y_5.1 /\ True) -> y_5.1 = putB (q383, List.flatten [y_4.1]) -> ((q402 < q387 /\ (List.length p3.1 + List.length [y_5.1]) * (24 : Nat) <= q419 /\
  List.length p3.1 + List.length [y_5.1] <= q418 /\ (lnZ p1.2.1) = (lnZ p1.2.1) /\ p1.2.1 = p1.2.1 /\ Value.slice none q402 q402 = Value.slice none q402 q402 /\ p1.1 = p1.1 /\ p1.2.1 = p1.2.1
  /\ p4 (wrZ (p2.1 + q417), ()) (p3.1 ++ [y_5.1], ()) /\ p5 (wrZ (p2.1 + q417), ()) (p3.1 ++ [y_5.1], ()) < p5 p2 p3) /\ True) /\ True) /\ True) /\ True) /\ True) /\ True) /\ True)
abbrev q354 (p0 : Int × List (Int × List Int) × Unit) (p1 : q1) := (q379 <= (q475 p0 p1).1 /\ (q475 p0 p1).1 <= (1000 : Int))
abbrev q355 (p0 : Int × List (Int × List Int) × Unit) (p1 : q1) := (List.getD p0.2.1 (q377 p1) q393)
abbrev q356 (p0 : q30) := (((lenG p0.1.1 <= (2000000 : Nat) /\ isTagD (160 : Int) = true) /\ (∀ (y : q5), (wyZ y.1 /\ True) -> okTr p0.1.1 = true /\ y.1 = List.flatMap putB (subs (160 :
  Int) p0.1.1) -> ((lenG p0.1.2 <= (2000000 : Nat) /\ isTagD (161 : Int) = true) /\ (∀ (y_1 : q5), (wyZ y_1.1 /\ True) -> okTr p0.1.2 = true /\ y_1.1 = List.flatMap putB (subs (161 : Int)
  p0.1.2) -> True /\ (∀ (y_2 : Unit), True -> decide (q379 < wrZ ((lnZ y.1) + (lnZ y_1.1))) = true -> (isTagD q383 = true /\ lenF [y.1, y_1.1] <= q420) /\ (∀ (y_3 : q5), (wyZ y_3.1 /\ True)
  -> y_3.1 = putB (q383, List.flatten [y.1, y_1.1]) -> (y_3.1, q379) = TreesD p0.1) /\ True) /\ ∀ (y_2 : Unit), Kd.wf Kd.unit y_2 -> decide (q379 < wrZ ((lnZ y.1) + (lnZ y_1.1))) = false ->
  q402 <= q448 /\ ([], (150 : Int)) = TreesD p0.1) /\ ∀ (y : Unit), Kd.wf Kd.unit y -> okTr p0.1.2 = false -> q402 <= q448 /\ ([], (150 : Int)) = TreesD p0.1) /\ True) /\ ∀ (y : Unit), Kd.wf
  Kd.unit y -> okTr p0.1.1 = false -> q402 <= q448 /\ ([], (150 : Int)) = TreesD p0.1) /\ True)
abbrev q506 := (Kd.sl (Kd.pair (Kd.int IntKind.i64) Kd.str))
abbrev q476 := (Kd.pair q506 q506)
abbrev q357 (p0 : q30) := (Kd.wf q476 p0.1 /\ True)
abbrev q421 (p0 : q23) := (bif decide (p0.2.2.1 = q482) then decide (q482 < (lnZ p0.1)) else false)
abbrev q358 (p0 : q23) := ((q421 p0) = true -> ((q421 p0) == true) = true /\ True)
abbrev q359 (p0 : q23) := (bif bif decide (p0.2.2.1 = q379) then decide (q379 < (lnZ p0.1)) else false then decide ((lnZ p0.1) <= (16 : Int)) else false)
abbrev q360 (p0 : q26) (p1 : q1) := (List.getD p0.1 (q377 p1) q412)
abbrev q361 (p0 : q23) := (bif decide (p0.2.2.1 = q379) then decide (q379 < (lnZ p0.1)) else false)
abbrev q362 (p0 : q26) := (Kd.wf q440 p0.1 /\ Kd.wf q450 p0.2.1 /\ True)
abbrev q422 (p0 : q26) := ((lnZ p0.2.1) = q482)
abbrev q363 (p0 : q26) := (decide (q422 p0) = true -> (decide (q422 p0) == true) = true /\ True)
abbrev q477 (p0 : q30) (p1 : q6) (p2 : q6) := (List.getD (List.getD [p0.1.1, p0.1.2] (Int.toNat p1.1) (Kd.dft q506)) (Int.toNat p2.1) (Kd.dft q500))
abbrev q364 (p0 : q30) (p1 : q6) (p2 : q6) := (q379 <= (q477 p0 p1 p2).1 /\ (q477 p0 p1 p2).1 <= (31 : Int) /\ lenB (q477 p0 p1 p2).2 <= (2000000 : Nat))
abbrev q478 (p0 : q30) (p1 : q6) := (List.getD [p0.1.1, p0.1.2] (Int.toNat p1.1) (Kd.dft q506))
abbrev q365 (p0 : q30) (p1 : q6) (p2 : q6) := (List.getD (q478 p0 p1) (Int.toNat p2.1) q393)
abbrev q366 (p0 : q6) (p1 : q30) (p2 : q6) := (q379 <= p0.1 /\ p0.1 < (lnZ (q478 p1 p2)))
abbrev q367 (p0 : q30) (p1 : q6) := ((16 : Int) < (lnZ (q478 p0 p1)))
abbrev q368 (p0 : q30) (p1 : q6) := (lnZ (q478 p0 p1))
abbrev q369 (p0 : q6) (p1 : q30) := (q379 <= p0.1 /\ p0.1 < (lnZ [p1.1.1, p1.1.2]))
abbrev q370 (p0 : (List (Int × List Int) × List (Int × List Int)) × (List (Int × List Int) × List (Int × List Int)) × Unit) (p1 : q9) := (!(decide ((List.getD p0.1.2 (q384 p1) q393).1 =
  (List.getD p0.2.1.2 (q384 p1) q393).1) && decide ((List.getD p0.1.2 (q384 p1) q393).2 = (List.getD p0.2.1.2 (q384 p1) q393).2)))
abbrev q371 (p0 : (List (Int × List Int) × List (Int × List Int)) × (List (Int × List Int) × List (Int × List Int)) × Unit) (p1 : q9) := (!(decide ((List.getD p0.1.1 (q384 p1) q393).1 =
  (List.getD p0.2.1.1 (q384 p1) q393).1) && decide ((List.getD p0.1.1 (q384 p1) q393).2 = (List.getD p0.2.1.1 (q384 p1) q393).2)))
abbrev q372 (p0 : (List (Int × List Int) × List (Int × List Int)) × (List (Int × List Int) × List (Int × List Int)) × Unit) := (decide ((lnZ p0.1.1) ≠ (lnZ p0.2.1.1)) = false -> (decide
  ((lnZ p0.1.1) ≠ (lnZ p0.2.1.1)) == false) = true /\ True)
abbrev q373 := (Kd.pair q440 q440)
abbrev q374 := (List (Int × List Int) × List (Int × List Int))
abbrev q375 (p0 : Unit × Unit × List (Int × List Int) × List (Int × List Int) × List (Int × List Int) × List (Int × List Int) × List (Int × List Int) × Unit) (p1 : q1) := (List.getD
  p0.2.2.1 (q377 p1) q412)
abbrev q423 (p0 : q374 × q374 × Unit) := ((lnZ p0.1.1) ≠ (lnZ p0.2.1.1))
def t55 : Prop :=
  ∀ (x : q1), (q36 x) -> q40 <= x.1 /\ x.1 <= (1000 : Int) -> (decide (x.1 = q73) = true -> wrZ ((160 : Int) + x.1) = tagG x.1) /\ (decide (x.1 = q73) = false -> wrZ (q96 + x.1) = tagG x.1)
theorem e55 : t55 = Con.vc c_ext_tag GL (mkEnvO ty [] [] [] [0, 2, 4] [1000000]) {} Tryz.f55.ntmps Tryz.f55.results.toList (bodyOf Tryz.f55) := by kernel_rfl
theorem k55 : t55 := by
  unfold t55
  delta q1 q36 q40 q73 wrZ q96 wiZ
  rintro ⟨k, _⟩ hx hp
  have hp : 0 ≤ k ∧ k ≤ 1000 := hp
  try dsimp +instances only [dft_int, dft_sl, dft_str]
  simp only [true_and, and_true, eq_self_iff_true, implies_true, reduceCtorEq, false_implies, true_implies, decide_eq_true_eq, decide_eq_false_iff_not, beq_self_eq_true, Bool.not_eq_true', ne_eq, Decidable.not_not, List.nil_append, List.length_singleton, List.length_cons, List.length_nil, Nat.zero_add, Nat.add_zero, Nat.mul_one, and_self, beq_iff_eq, Bool.not_true, Bool.not_false, Bool.not_eq_false', Bool.cond_false_right, Bool.and_eq_true, imp_self, Bool.not_eq_true, Bool.cond_true_left, Bool.or_eq_true]
  exact ⟨fun h => by rw [tagG, if_pos h, wrapM _ (by omega) (by omega)]; omega, fun h => by rw [tagG, if_neg h, wrapM _ (by omega) (by omega)]⟩
theorem h55 : c_ext_tag.ok Tryz.prog GL 55 := conO_ok (H := {}) (mkEnvO_ok (gl := GL) (l := []) (q := []) (d := []) _ [1000000] tyOk (by kernel_rfl) trivial trivial trivial) (by kernel_rfl) (by kernel_rfl) (Eq.mp e55 k55)
def t63 : Prop :=
  ∀ (x : q13), (Kd.wf q403 x.1 /\ True) -> isTagD x.1.1 = true -> List.length [SV.dat q140 x.1.1, SV.dat q404 x.1.2] <= q69 /\ True /\ ((q40 <= wrZ (q352 x) /\ wrZ (q352 x) <= (1000 : Int))
  /\ (∀ (y : q1), (q36 y) -> y.1 = tagG (wrZ (q352 x)) -> (True /\ (∀ (y_1 : Unit), True -> decide (x.1.1 = y.1) = true -> okE x.1 = true /\ (wrZ (q352 x), x.1.2) = genE x.1) /\ ∀ (y_1 :
  Unit), Kd.wf Kd.unit y_1 -> decide (x.1.1 = y.1) = false -> okE x.1 = false) /\ True) /\ True) /\ True
theorem e63 : t63 = Con.vc c_ext_general GL (mkEnvO ty [(55, conSem c_ext_tag), (42, conSem c_ext_must)] [] [] [0, 1, 2, 3, 4] [1000000,3000001]) {} Tryz.f63.ntmps Tryz.f63.results.toList (bodyOf Tryz.f63) := by kernel_rfl
theorem k63 : t63 := by
  unfold t63
  delta q13 q403 q140 q404 q69 q40 wrZ q352 q1 q36 q494 q488 wiZ
  rintro ⟨⟨t, c⟩, _⟩ hx hp
  have hp : isTagD t = true := hp
  have ht := tag_range hp
  try dsimp +instances only [dft_int, dft_sl, dft_str]
  simp only [true_and, and_true, eq_self_iff_true, implies_true, reduceCtorEq, false_implies, true_implies, decide_eq_true_eq, decide_eq_false_iff_not, beq_self_eq_true, Bool.not_eq_true', ne_eq, Decidable.not_not, List.nil_append, List.length_singleton, List.length_cons, List.length_nil, Nat.zero_add, Nat.add_zero, Nat.mul_one, and_self, beq_iff_eq, Bool.not_true, Bool.not_false, Bool.not_eq_false', Bool.cond_false_right, Bool.and_eq_true, imp_self, Bool.not_eq_true, Bool.cond_true_left, Bool.or_eq_true]
  simp only [and31 ht.1 ht.2.1]
  refine ⟨by decide, ⟨by omega, by omega⟩, ?_⟩
  rintro ⟨y, _⟩ _ e
  simp only at e ⊢
  refine ⟨fun _ h => ⟨?_, rfl⟩, fun _ _ h => ?_⟩
  . exact decide_eq_true (h.trans e)
  . exact decide_eq_false (fun hc => h (hc.trans e.symm))
theorem h63 : c_ext_general.ok Tryz.prog GL 63 := conO_ok (H := {}) (mkEnvO_ok (gl := GL) (l := [(55, conSem c_ext_tag), (42, conSem c_ext_must)]) (q := []) (d := []) _ [1000000,3000001] tyOk (by kernel_rfl) ⟨h55.call, h42.call, trivial⟩ trivial trivial) (by kernel_rfl) (by kernel_rfl) (Eq.mp e63 k63)
def t41 : Prop :=
  ∀ (x : Int × List q194 × Unit), (wiZ x.1 /\ Kd.wf q244 x.2.1 /\ True) -> lenG x.2.1 <= q349 /\ isTagD x.1 = true -> True /\ (∀ (y : Unit), True -> decide ((lnZ x.2.1) <= (16 : Int)) = true
  -> ∃ (I : Int × Unit -> List (List Int) × Unit -> Prop), ∃ (μ : Int × Unit -> List (List Int) × Unit -> Nat), ((lnZ x.2.1) = (lnZ x.2.1) /\ x.2.1 = x.2.1 /\ Value.slice none q71 q71 =
  Value.slice none q71 q71 /\ x.1 = x.1 /\ x.2.1 = x.2.1 /\ I (q40, ()) ([], ())) /\ ∀ (y : q1) (z : q15), (q36 y) -> (Kd.wf q164 z.1 /\ True) -> I y z -> (decide (y.1 < (lnZ x.2.1)) = true
  -> (q40 <= y.1 /\ y.1 < (lnZ x.2.1)) /\ q74 <= q69 /\ List.length (q355 x y).2 <= q155 /\ (∀ (y_1 : q4), (q47 y_1) -> y_1.1 = mayT (q355 x y).1 (q355 x y).2 -> True /\ (∀ (y_2 : Unit), True
  -> y_1.1 = true -> True /\ True /\ ((q354 x y) /\ (∀ (y_3 : q1), (q36 y_3) -> y_3.1 = tagG (q355 x y).1 -> ((q353 y_3 x y z I μ) /\ True) /\ True) /\ True) /\ (((q354 x y) /\ (∀ (y_3 : q1),
  (q36 y_3) -> y_3.1 = tagG (q355 x y).1 -> (q353 y_3 x y z I μ) /\ True) /\ True) /\ (((q354 x y) /\ (∀ (y_3 : q1), (q36 y_3) -> y_3.1 = tagG (q355 x y).1 -> ((isTagD y_3.1 = true /\ lenF
  [(List.getD x.2.1 (q377 y) q393).2] <= q420) /\ (∀ (y_4 : q5), (wyZ y_4.1 /\ True) -> y_4.1 = putB (y_3.1, List.flatten [(List.getD x.2.1 (q377 y) q393).2]) -> (((isTagD q383 = true /\ lenF
  [y_4.1] <= q420) /\ (∀ (y_5 : q5), (wyZ y_5.1 /\ True) -> y_5.1 = putB (q383, List.flatten [y_4.1]) -> ((q402 < q387 /\ (List.length z.1 + List.length [y_5.1]) * (24 : Nat) <= q419 /\
  List.length z.1 + List.length [y_5.1] <= q418 /\ (lnZ x.2.1) = (lnZ x.2.1) /\ x.2.1 = x.2.1 /\ Value.slice none q402 q402 = Value.slice none q402 q402 /\ x.1 = x.1 /\ x.2.1 = x.2.1 /\ I
  (wrZ (y.1 + q417), ()) (z.1 ++ [y_5.1], ()) /\ μ (wrZ (y.1 + q417), ()) (z.1 ++ [y_5.1], ()) < μ y z) /\ True) /\ True) /\ True) /\ True) /\ True) /\ True) /\ True) /\ True) /\ True) /\
  True) /\ True) /\ ∀ (y : Unit), Kd.wf Kd.unit y -> y_1.1 = false -> okTr x.2.1 = false) /\ True) /\ (decide (y.1 < (lnZ x.2.1)) = false -> (decide ((lnZ z.1) = q40) = true -> okTr x.2.1 =
  true /\ [] = List.flatMap putB (subs x.1 x.2.1)) /\ (decide ((lnZ z.1) = q40) = false -> (isTagD x.1 = true /\ lenF z.1 <= q197) /\ (∀ (y : q5), (q160 y) -> y.1 = putB (x.1, List.flatten
  z.1) -> okTr x.2.1 = true /\ y.1 = List.flatMap putB (subs x.1 x.2.1)) /\ True))) /\ ∀ (y : Unit), Kd.wf Kd.unit y -> decide ((lnZ x.2.1) <= (16 : Int)) = false -> okTr x.2.1 = false
theorem e41 : t41 = Con.vc c_ext_trees GL (mkEnvO ty [(94, conSem c_within_May), (42, conSem c_ext_must), (55, conSem c_ext_tag), (43, conSem c_ext_wrap)] [] [] [0, 1, 4, 5, 7, 12, 13, 14, 15, 37] [1000000,3000007]) {} Tryz.f41.ntmps Tryz.f41.results.toList (bodyOf Tryz.f41) := by kernel_rfl
theorem k41 : t41 := by
  unfold t41
  delta q194 wiZ q244 q349 lnZ q71 q40 q1 q15 q36 q164 q74 q69 q355 q155 q4 q47 q354 q353 q377 q393 q420 q5 wyZ q383 q402 q387 q419 q418 wrZ q417 q197 q160 q415 q404 wbZ q379 q475 q500 q494 q488
  rintro ⟨t, l, _⟩ hx hp
  have hp : lenG l ≤ 2000000 ∧ isTagD t = true := hp
  obtain ⟨hp, htag⟩ := hp
  try dsimp +instances only [dft_int, dft_sl, dft_str]
  simp only [true_and, and_true, eq_self_iff_true, implies_true, reduceCtorEq, false_implies, true_implies, decide_eq_true_eq, decide_eq_false_iff_not, beq_self_eq_true, Bool.not_eq_true', ne_eq, Decidable.not_not, List.nil_append, List.length_singleton, List.length_cons, List.length_nil, Nat.zero_add, Nat.add_zero, Nat.mul_one, and_self, beq_iff_eq, Bool.not_true, Bool.not_false, Bool.not_eq_false', Bool.cond_false_right, Bool.and_eq_true, imp_self, Bool.not_eq_true, Bool.cond_true_left, Bool.or_eq_true]
  have hdG : ((Kd.int IntKind.i64).pair Kd.str).dft = gdft := rfl
  try simp only [hdG]
  refine ⟨fun _ h16 => ?_, fun _ _ h => ?_⟩
  . have hfl := elTs_len l
    have hgl0 := genBs_len l
    refine ⟨fun y z => 0 ≤ y.1 ∧ y.1 ≤ l.length ∧ z.1.length = y.1.toNat ∧ z.1.flatten = (l.take y.1.toNat).flatMap (fun t => putB (elT t)) ∧ ∀ g ∈ l.take y.1.toNat, mayTr g = true, fun y _ => ((l.length : Int) - y.1).toNat, ⟨Int.le_refl 0, by simp only; omega, rfl, rfl, by simp⟩, ?_⟩
    rintro ⟨i, _⟩ ⟨zs, _⟩ _ _ ⟨h0, h1, h2, h3, h4⟩
    simp only at h0 h1 h2 h3 h4 ⊢
    refine ⟨fun hi => ?_, fun hi => ?_⟩
    . have hmem := gd_mem l gdft i.toNat (by omega)
      have hgl := sum_mem hmem
      refine ⟨⟨h0, hi⟩, by decide, by omega, ?_⟩
      rintro ⟨y, _⟩ _ e
      simp only at e ⊢
      refine ⟨fun _ hy => ?_, fun _ _ hy => ?_⟩
      . have hmay : mayTr (l.getD i.toNat gdft) = true := e.symm.trans hy
        have hk := mayTr_kind hmay
        have hkr : 0 ≤ (l.getD i.toNat gdft).1 ∧ (l.getD i.toNat gdft).1 ≤ 1000 := by
          rcases hk with h | h | h | h <;> rw [h] <;> decide
        refine ⟨hkr, ?_⟩
        rintro ⟨u, _⟩ _ e2
        simp only at e2 ⊢
        simp only [flat_one]
        refine ⟨⟨by rw [e2]; exact (tagG_kind hk).1, by rw [lenF, flat_one]; omega⟩, ?_⟩
        rintro ⟨d, _⟩ _ e4
        simp only at e4 ⊢
        have e5 : d = genB (l.getD i.toNat gdft) := by rw [e4, e2]; rfl
        have hd5 := genB_len (l.getD i.toNat gdft)
        rw [← e5] at hd5
        refine ⟨⟨by decide, by rw [lenF, flat_one]; omega⟩, ?_⟩
        rintro ⟨d2, _⟩ _ e6
        simp only at e6 ⊢
        rw [wrapM (i + 1) (by omega) (by omega)]
        refine ⟨by decide, by omega, by omega, ⟨by omega, by omega, by rw [List.length_append]; simp only [List.length_cons, List.length_nil]; omega, ?_, ?_⟩, by omega⟩
        . rw [show (i + 1).toNat = i.toNat + 1 by omega, flat_take (fun t => putB (elT t)) l gdft i.toNat (by omega), List.flatten_append, h3, flat_one, e6, e5]
          rfl
        . rw [show (i + 1).toNat = i.toNat + 1 by omega]
          exact all_take gdft (by omega) h4 hmay
      . rw [okTr]
        cases ha : l.all mayTr with
        | false => rw [Bool.and_false]
        | true =>
          have := List.all_eq_true.1 ha _ hmem
          have hf : mayTr (l.getD i.toNat gdft) = false := e.symm.trans hy
          rw [hf] at this; cases this
    . rw [take_all (by omega)] at h3 h4
      have hok : okTr l = true := by rw [okTr, decide_eq_true (show l.length ≤ 16 by omega), Bool.true_and]; exact List.all_eq_true.2 h4
      have hlen : l.length = i.toNat := by omega
      refine ⟨fun h => ⟨hok, ?_⟩, fun h => ⟨⟨htag, by rw [lenF, h3]; omega⟩, ?_⟩⟩
      . have : l = [] := List.length_eq_zero_iff.1 (by omega)
        rw [this]; rfl
      . rintro ⟨d, _⟩ _ e
        simp only at e ⊢
        refine ⟨hok, ?_⟩
        have hne : l ≠ [] := fun hc => h (by rw [hc] at hlen; simp at hlen; omega)
        rw [e, h3, subs, if_neg hne]
        simp only [List.flatMap_cons, List.flatMap_nil, List.append_nil]
  . rw [okTr, decide_eq_false (show ¬ l.length ≤ 16 by omega), Bool.false_and]
theorem h41 : c_ext_trees.ok Tryz.prog GL 41 := conO_ok (H := {}) (mkEnvO_ok (gl := GL) (l := [(94, conSem c_within_May), (42, conSem c_ext_must), (55, conSem c_ext_tag), (43, conSem c_ext_wrap)]) (q := []) (d := []) _ [1000000,3000007] tyOk (by kernel_rfl) ⟨h94.call, h42.call, h55.call, h43.call, trivial⟩ trivial trivial) (by kernel_rfl) (by kernel_rfl) (Eq.mp e41 k41)
noncomputable def i93 : DefSem := vcDef (mkEnv ty [] [] [] [0, 1, 2, 4, 5, 8, 15]) {} Tryz.f93.ntmps Tryz.f93.results.toList (bodyOf Tryz.f93)
theorem i93_ok : DefOk Tryz.prog GL 93 i93 := def_ok {} (mkEnv_ok (gl := GL) (l := []) (q := []) (d := []) _ tyOk (by kernel_rfl) trivial trivial trivial) (by kernel_rfl) (by kernel_rfl)
noncomputable def i40 : CallSem := vcFn (mkEnvO ty [(41, conSem c_ext_trees), (42, conSem c_ext_must), (43, conSem c_ext_wrap)] [] [] [0, 1, 2, 3] [1000000]) {} Tryz.f40.ntmps Tryz.f40.results.toList (bodyOf Tryz.f40)
theorem i40_ok : CallOk Tryz.prog GL 40 i40 := inlO_ok {} (mkEnvO_ok (gl := GL) (l := [(41, conSem c_ext_trees), (42, conSem c_ext_must), (43, conSem c_ext_wrap)]) (q := []) (d := []) _ [1000000] tyOk (by kernel_rfl) ⟨h41.call, h42.call, h43.call, trivial⟩ trivial trivial) (by kernel_rfl) (by kernel_rfl)
noncomputable def i39 : CallSem := vcFn (mkEnv ty [(40, i40)] [] [(93, i93)] [0, 2, 3]) {} Tryz.f39.ntmps Tryz.f39.results.toList (bodyOf Tryz.f39)
theorem i39_ok : CallOk Tryz.prog GL 39 i39 := inl_ok {} (mkEnv_ok (gl := GL) (l := [(40, i40)]) (q := []) (d := [(93, i93)]) _ tyOk (by kernel_rfl) ⟨i40_ok, trivial⟩ trivial ⟨i93_ok, trivial⟩) (by kernel_rfl) (by kernel_rfl)
def t7 : Prop :=
  ∀ (x : q30), (q357 x) -> lenG x.1.1 <= q349 /\ lenG x.1.2 <= q349 -> List.length [SV.dat q244 x.1.1, SV.dat q244 x.1.2] <= q69 /\ q42 <= q69 /\ q42 <= q69 /\ (((lenG x.1.1 <= q349 /\ isTagD
  (160 : Int) = true) /\ (∀ (y : q5), (q160 y) -> okTr x.1.1 = true /\ y.1 = List.flatMap putB (subs (160 : Int) x.1.1) -> (((lenG x.1.2 <= q349 /\ isTagD (161 : Int) = true) /\ (∀ (y_1 :
  q5), (q160 y_1) -> okTr x.1.2 = true /\ y_1.1 = List.flatMap putB (subs (161 : Int) x.1.2) -> True /\ (∀ (y_2 : Unit), True -> decide (q379 < wrZ ((lnZ y.1) + (lnZ y_1.1))) = true ->
  (isTagD q233 = true /\ lenF [y.1, y_1.1] <= q197) /\ (∀ (y_3 : q5), (q160 y_3) -> y_3.1 = putB (q233, List.flatten [y.1, y_1.1]) -> (y_3.1, q40) = TreesD x.1) /\ True) /\ ∀ (y_2 : Unit),
  Kd.wf Kd.unit y_2 -> decide (q379 < wrZ ((lnZ y.1) + (lnZ y_1.1))) = false -> q71 <= q69 /\ ([], (150 : Int)) = TreesD x.1) /\ ∀ (y : Unit), Kd.wf Kd.unit y -> okTr x.1.2 = false -> q71 <=
  q69 /\ ([], (150 : Int)) = TreesD x.1) /\ True) /\ True) /\ ∀ (y : Unit), Kd.wf Kd.unit y -> okTr x.1.1 = false -> q71 <= q69 /\ ([], (150 : Int)) = TreesD x.1) /\ (q356 x) /\ True) /\
  ((q356 x) /\ True) /\ True
theorem e7 : t7 = Con.vc c_ext_Trees GL (mkEnv ty [(39, i39)] [] [] [0, 1, 2, 3]) {} Tryz.f7.ntmps Tryz.f7.results.toList (bodyOf Tryz.f7) := by kernel_rfl
theorem k7 : t7 := by
  unfold t7
  delta q30 q357 q349 q244 q69 q42 q5 q160 q379 wrZ lnZ q233 q197 q40 q71 q356 q476 q415 wyZ q383 q420 q402 q448 q506 q494
  rintro ⟨⟨p, x⟩, _⟩ hx hp
  have hp : lenG p ≤ 2000000 ∧ lenG x ≤ 2000000 := hp
  try dsimp +instances only [dft_int, dft_sl, dft_str]
  simp only [true_and, and_true, eq_self_iff_true, implies_true, reduceCtorEq, false_implies, true_implies, decide_eq_true_eq, decide_eq_false_iff_not, beq_self_eq_true, Bool.not_eq_true', ne_eq, Decidable.not_not, List.nil_append, List.length_singleton, List.length_cons, List.length_nil, Nat.zero_add, Nat.add_zero, Nat.mul_one, and_self, beq_iff_eq, Bool.not_true, Bool.not_false, Bool.not_eq_false', Bool.cond_false_right, Bool.and_eq_true, imp_self, Bool.not_eq_true, Bool.cond_true_left, Bool.or_eq_true]
  have sub_len : ∀ {t : Int} {l : List GenT}, okTr l = true → lenG l ≤ 2000000 → ((subs t l).flatMap putB).length ≤ 2100000 := fun {t l} h hl => by
    have h16 := of_decide_eq_true (Bool.and_eq_true_iff.1 h).1
    have h1 := elTs_len l
    unfold subs
    split
    . simp
    . rw [List.flatMap_cons, List.flatMap_nil, List.append_nil, put_len]
      have := (lng_len (n := ((l.flatMap fun t => putB (elT t)).length : Int))).2
      simp only
      omega
  have sub_pos : ∀ {t : Int} {l : List GenT}, l ≠ [] → 0 < ((subs t l).flatMap putB).length := fun {t l} h => by
    unfold subs
    rw [if_neg h, List.flatMap_cons, List.length_append, put_len]; omega
  have sub_nil : ∀ {t : Int}, ((subs t []).flatMap putB).length = 0 := fun {t} => rfl
  have bad : okTr p = false ∨ okTr x = false ∨ (p = [] ∧ x = []) → TreesD (p, x) = ([], 150) := fun h => by
    rw [TreesD, if_pos]
    cases hb : badTr (p, x) with
    | true => rfl
    | false =>
      obtain ⟨h1, h2, h3, h4, h5⟩ := badTr_no (t := (p, x)) (by rw [hb]; decide)
      have o1 : okTr p = true := by rw [okTr, decide_eq_true h1, Bool.true_and]; exact List.all_eq_true.2 h3
      have o2 : okTr x = true := by rw [okTr, decide_eq_true h2, Bool.true_and]; exact List.all_eq_true.2 h4
      rcases h with h | h | h
      . rw [o1] at h; cases h
      . rw [o2] at h; cases h
      . exact absurd h h5
  refine ⟨by decide, by decide, by decide, ⟨hp.1, by decide⟩, ?_, fun _ _ h => ⟨by decide, (bad (.inl h)).symm⟩⟩
  rintro ⟨a, _⟩ _ ⟨ho1, e1⟩
  simp only at e1 ⊢
  have l1 := sub_len (t := 160) ho1 hp.1
  rw [← e1] at l1
  refine ⟨⟨hp.2, by decide⟩, ?_, fun _ _ h => ⟨by decide, (bad (.inr (.inl h))).symm⟩⟩
  rintro ⟨c, _⟩ _ ⟨ho2, e2⟩
  simp only at e2 ⊢
  have l2 := sub_len (t := 161) ho2 hp.2
  rw [← e2] at l2
  have h16p := of_decide_eq_true (Bool.and_eq_true_iff.1 ho1).1
  have h16x := of_decide_eq_true (Bool.and_eq_true_iff.1 ho2).1
  have hap := List.all_eq_true.1 (Bool.and_eq_true_iff.1 ho1).2
  have hax := List.all_eq_true.1 (Bool.and_eq_true_iff.1 ho2).2
  rw [wrapM _ (by omega) (by omega)]
  have hf2 : [a, c].flatten = a ++ c := by simp
  refine ⟨fun _ h => ⟨⟨by decide, by rw [lenF, hf2, List.length_append]; omega⟩, ?_⟩, fun _ _ h => ⟨by decide, ?_⟩⟩
  . rintro ⟨d, _⟩ _ e
    simp only at e ⊢
    have hne : ¬ (p = [] ∧ x = []) := by
      rintro ⟨rfl, rfl⟩
      rw [e1, e2] at h
      exact absurd h (by decide)
    rw [TreesD, if_neg (by rw [no_badTr (t := (p, x)) h16p h16x hap hax hne]; decide), treesB, e, hf2, e1, e2, List.flatMap_append]
  . refine (bad (.inr (.inr ?_))).symm
    constructor
    . by_cases hc : p = []
      . exact hc
      . have := sub_pos (t := 160) hc
        rw [← e1] at this
        exact absurd (show (0 : Int) < a.length + c.length by omega) h
    . by_cases hc : x = []
      . exact hc
      . have := sub_pos (t := 161) hc
        rw [← e2] at this
        exact absurd (show (0 : Int) < a.length + c.length by omega) h
theorem h7 : c_ext_Trees.ok Tryz.prog GL 7 := con_ok (H := {}) (mkEnv_ok (gl := GL) (l := [(39, i39)]) (q := []) (d := []) _ tyOk (by kernel_rfl) ⟨i39_ok, trivial⟩ trivial trivial) (by kernel_rfl) (by kernel_rfl) (Eq.mp e7 k7)
def t49 : Prop :=
  ∀ (x : q28), (Kd.wf q192 x.1 /\ wiZ x.2.1 /\ True) -> lenEs x.1 <= q349 -> True /\ (∀ (y : List Int × Bool × List q194 × Unit), (wyZ y.1 /\ wbZ y.2.1 /\ Kd.wf q192 y.2.2.1 /\ True) -> (y.1,
  y.2.1, y.2.2.1) = takeE x.1 x.2.1 -> ((!y.2.1) = true -> rdS x.1 x.2.1 = ([], y.2.2.1, true)) /\ ((!y.2.1) = false -> lenB y.1 <= q84 /\ (∀ (y_1 : q23), (q234 y_1) -> (y_1.1, y_1.2.1,
  y_1.2.2.1) = allD y.1 -> (decide (q235 y_1) = true -> True) /\ (decide (q235 y_1) = true -> (decide (q235 y_1) == true) = true /\ True) /\ (decide (q235 y_1) = true -> (decide (q235 y_1) ==
  true) = true /\ True) /\ (decide (q235 y_1) = true -> (decide (q235 y_1) == true) = true) /\ ((q361 y_1) = true -> True) /\ (q358 y_1) /\ (q358 y_1) /\ ((q361 y_1) = true -> ((q421 y_1) ==
  true) = true) /\ True /\ (∀ (y_2 : Unit), True -> (q359 y_1) = true -> ∃ (I : q24), ∃ (μ : q25), ((lnZ y_1.1) = (lnZ y_1.1) /\ y_1.2.2.1 = y_1.2.2.1 /\ Value.bool false = Value.bool false
  /\ y.2.2.1 = y.2.2.1 /\ y.2.1 = y.2.1 /\ y.1 = y.1 /\ Value.slice none q71 q71 = Value.slice none q71 q71 /\ Value.slice none q71 q71 = Value.slice none q71 q71 /\ x.1 = x.1 /\ x.2.1 =
  x.2.1 /\ I (q40, ()) (y_1.1, [], ())) /\ ∀ (y_3 : q1) (z : q26), (q36 y_3) -> (Kd.wf q192 z.1 /\ Kd.wf q244 z.2.1 /\ True) -> I y_3 z -> (decide (y_3.1 < (lnZ y_1.1)) = true -> (q40 <=
  y_3.1 /\ y_3.1 < (lnZ z.1)) /\ q74 <= q69 /\ True /\ (∀ (y_4 : Unit), True -> decide ((q360 z y_3).1 = q233) = true -> lenB (q360 z y_3).2 <= q84 /\ (∀ (y_5 : q22), (q225 y_5) -> (y_5.1,
  y_5.2.1) = oneD (q360 z y_3).2 -> q74 <= q69 /\ True /\ (∀ (y_6 : Unit), True -> decide (q406 y_5) = true -> isTagD y_5.1.1 = true /\ (∀ (y_7 : q12), (wiZ y_7.1 /\ wsZ y_7.2.1 /\ True) ->
  okE (y_5.1.1, y_5.1.2) = true /\ (y_7.1, y_7.2.1) = genE (y_5.1.1, y_5.1.2) -> List.length y_7.2.1 <= q155 /\ (∀ (y_8 : q4), (q47 y_8) -> y_8.1 = mayT y_7.1 y_7.2.1 -> True /\ (∀ (y_9 :
  Unit), True -> y_8.1 = true -> q71 < q74 /\ (List.length z.2.1 + List.length [(y_7.1, y_7.2.1)]) * q245 <= q159 /\ List.length z.2.1 + List.length [(y_7.1, y_7.2.1)] <= q158 /\ (lnZ y_1.1)
  = (lnZ y_1.1) /\ y_1.2.2.1 = y_1.2.2.1 /\ Value.bool false = Value.bool false /\ y.2.2.1 = y.2.2.1 /\ y.2.1 = y.2.1 /\ y.1 = y.1 /\ Value.slice none q71 q71 = Value.slice none q71 q71 /\
  Value.slice none q71 q71 = Value.slice none q71 q71 /\ x.1 = x.1 /\ x.2.1 = x.2.1 /\ I (wrZ (q217 y_3), ()) (z.1, z.2.1 ++ [(y_7.1, y_7.2.1)], ()) /\ μ (wrZ (q217 y_3), ()) (z.1, z.2.1 ++
  [(y_7.1, y_7.2.1)], ()) < μ y_3 z) /\ ∀ (y : Unit), Kd.wf Kd.unit y -> y_8.1 = false -> (rdS x.1 x.2.1).2.2 = false) /\ True) /\ ∀ (y : Unit), Kd.wf Kd.unit y -> okE (y_5.1.1, y_5.1.2) =
  false -> (rdS x.1 x.2.1).2.2 = false) /\ ∀ (y : Unit), Kd.wf Kd.unit y -> decide (q406 y_5) = false -> (rdS x.1 x.2.1).2.2 = false) /\ True) /\ ∀ (y : Unit), Kd.wf Kd.unit y -> decide
  ((q360 z y_3).1 = q233) = false -> (rdS x.1 x.2.1).2.2 = false) /\ (decide (y_3.1 < (lnZ y_1.1)) = false -> rdS x.1 x.2.1 = (z.2.1, y.2.2.1, true))) /\ ∀ (y : Unit), Kd.wf Kd.unit y ->
  (q359 y_1) = false -> (rdS x.1 x.2.1).2.2 = false) /\ True)) /\ True
theorem e49 : t49 = Con.vc c_ext_toTrees GL (mkEnvO ty [(77, conSem c_ext_take), (72, conSem c_der_All), (42, conSem c_ext_must), (102, conSem c_der_One), (63, conSem c_ext_general), (94, conSem c_within_May)] [] [] [0, 1, 4, 5, 6, 7, 8, 9, 10, 12, 14, 15, 16, 17, 18, 27, 49, 50, 51, 52] [1000000]) {} Tryz.f49.ntmps Tryz.f49.results.toList (bodyOf Tryz.f49) := by kernel_rfl
theorem k49 : t49 := by
  unfold t49
  delta q28 q192 wiZ q349 q194 wyZ wbZ q84 q23 q234 q235 q361 q358 q421 q359 q24 q25 lnZ q71 q40 q1 q26 q36 q244 q74 q69 q360 q233 q22 q225 q406 q12 wsZ q155 q4 q47 q245 q159 q158 wrZ q217 q403 q450 q379 q482 q415 q377 q412 q417 q494 q512
  rintro ⟨l, t, _⟩ hx hp
  have hp : lenEs l ≤ 2000000 := hp
  have hwl : ∀ e ∈ l, Bys e.2 := fun e he => sl_bys (hx.1.2 e he).2
  try dsimp +instances only [dft_int, dft_sl, dft_str]
  simp only [true_and, and_true, eq_self_iff_true, implies_true, reduceCtorEq, false_implies, true_implies, decide_eq_true_eq, decide_eq_false_iff_not, beq_self_eq_true, Bool.not_eq_true', ne_eq, Decidable.not_not, List.nil_append, List.length_singleton, List.length_cons, List.length_nil, Nat.zero_add, Nat.add_zero, Nat.mul_one, and_self, beq_iff_eq, Bool.not_true, Bool.not_false, Bool.not_eq_false', Bool.cond_false_right, Bool.and_eq_true, imp_self, Bool.not_eq_true, Bool.cond_true_left, Bool.or_eq_true]
  have hdE : ((Kd.int IntKind.i64).pair (Kd.int IntKind.u8).sl).dft = edft := rfl
  try simp only [hdE]
  rintro ⟨q, ok, r, _⟩ _ e
  simp only at e ⊢
  refine ⟨fun h => ?_, fun h => ?_⟩
  . subst h
    have hr := take_false (l := l) (t := t) (by rw [← e])
    rw [← e] at hr
    simp only at hr
    rw [rdS, ← e, if_pos (by first | rfl | trivial), hr]
  . subst h
    have hl := take_true (l := l) (t := t) (by rw [← e])
    rw [← e] at hl
    simp only at hl
    have hmq : (t, q) ∈ l := by rw [hl]; exact List.mem_cons_self
    have hq : Bys q := hwl _ hmq
    have hql : q.length ≤ 2000000 := by have := el_mem hmq; simp only at this; omega
    refine ⟨by show q.length ≤ _; omega, ?_⟩
    rintro ⟨L, n, f, _⟩ _ e2
    simp only at e2 ⊢
    have hLl : L.length ≤ 2000000 ∧ ∀ x ∈ L, x.2.length ≤ 2000000 := by
      have h1 := allD_len q
      rw [← e2] at h1
      simp only at h1
      exact ⟨by omega, fun x hx => by have := h1.2 x hx; omega⟩
    have hD : rdS l t = if f = 0 ∧ L ≠ [] ∧ L.length ≤ 16 ∧ (L.all fun e => (rdT e).2) = true then (L.map fun e => (rdT e).1, r, true) else ([], [], false) := by
      rw [rdS, ← e, if_neg (by simp)]
      simp only
      rw [← e2]
    refine ⟨fun _ h => ?_, fun _ _ h => ?_⟩
    . have hf := flat_all hq (by rw [← e2]; exact h.1.1)
      rw [← e2] at hf
      simp only at hf
      have hB : ∀ y ∈ L, Bys y.2 := fun y hy z hz => hq z (by
        rw [hf.1]
        refine List.mem_flatMap.2 ⟨y, hy, ?_⟩
        rw [putB]
        exact List.mem_cons_of_mem _ (List.mem_append_right _ hz))
      have hbad : ∀ {i : Nat}, i < L.length → (rdT (L.getD i edft)).2 = false → (rdS l t).2.2 = false := fun hi h => by
        rw [hD, if_neg]
        rintro ⟨_, _, _, h1⟩
        have := List.all_eq_true.1 h1 _ (gd_mem L edft _ hi)
        rw [h] at this; cases this
      have hne : L ≠ [] := fun hc => by rw [hc] at h; exact absurd h.1.2 (by decide)
      refine ⟨fun y z => 0 ≤ y.1 ∧ y.1 ≤ L.length ∧ z.1 = L ∧ z.2.1 = (L.take y.1.toNat).map (fun e => (rdT e).1) ∧ ∀ x ∈ L.take y.1.toNat, (rdT x).2 = true, fun y _ => ((L.length : Int) - y.1).toNat, ⟨Int.le_refl 0, by simp only; omega, rfl, by simp, by simp⟩, ?_⟩
      rintro ⟨i, _⟩ ⟨row, acc, _⟩ _ _ ⟨h0, h1, h2, h3, h4⟩
      simp only at h0 h1 h2 h3 h4 ⊢
      simp only [h2]
      have hal : acc.length = i.toNat := by rw [h3, List.length_map, List.length_take]; omega
      refine ⟨fun hi => ?_, fun hi => ?_⟩
      . have hmem := gd_mem L edft i.toNat (by omega)
        have hml := hLl.2 _ hmem
        refine ⟨⟨h0, hi⟩, by decide, fun _ h48 => ?_, fun _ _ h48 => ?_⟩
        . refine ⟨by show (L.getD i.toNat edft).2.length ≤ _; omega, ?_⟩
          rintro ⟨⟨u, c⟩, g, _⟩ _ e3
          simp only at e3 ⊢
          have hcl : c.length ≤ 2000000 := by
            have := oneD_len (L.getD i.toNat edft).2
            have e3' : ((u, c), g) = oneD (L.getD i.toNat edft).2 := e3
            rw [← e3'] at this
            simp only at this; omega
          have hR : rdT (L.getD i.toNat edft) = if g = 0 ∧ okE (u, c) = true ∧ mayTr (genE (u, c)) = true then (genE (u, c), true) else (gdft, false) := by
            have e3' : ((u, c), g) = oneD (L.getD i.toNat edft).2 := e3
            rw [rdT, ← e3']
            have h48' : (L.getD i.toNat edft).1 = 48 := h48
            simp only [h48', true_and]
          refine ⟨by decide, fun _ hg => ?_, fun _ _ hg => ?_⟩
          . have hbk := one_back (hB _ hmem) (by rw [← show ((u, c), g) = oneD (L.getD i.toNat edft).2 from e3]; exact hg)
            rw [← show ((u, c), g) = oneD (L.getD i.toNat edft).2 from e3] at hbk
            refine ⟨hbk.1, ?_, fun _ _ hk => ?_⟩
            . rintro ⟨k, s, _⟩ _ ⟨hok, e4⟩
              simp only at e4 ⊢
              obtain ⟨rfl, rfl⟩ := Prod.mk.inj e4
              refine ⟨by omega, ?_⟩
              rintro ⟨y, _⟩ _ e5
              simp only at e5 ⊢
              refine ⟨fun _ hy => ?_, fun _ _ hy => ?_⟩
              . have hm : mayTr (genE (u, s)) = true := e5.symm.trans hy
                rw [if_pos ⟨hg, hok, hm⟩] at hR
                rw [wrapM (i + 1) (by omega) (by omega)]
                refine ⟨by decide, by omega, by omega, ⟨by omega, by omega, trivial, ?_, ?_⟩, by omega⟩
                . rw [show (i + 1).toNat = i.toNat + 1 by omega, map_take _ L edft i.toNat (by omega), h3, hR]
                  rfl
                . rw [show (i + 1).toNat = i.toNat + 1 by omega]
                  exact all_take edft (by omega) h4 (by rw [hR])
              . refine hbad (i := i.toNat) (by omega) ?_
                have hm : mayTr (genE (u, s)) = false := e5.symm.trans hy
                rw [hR, if_neg (by rw [hm]; simp)]
            . refine hbad (i := i.toNat) (by omega) ?_
              rw [hR, if_neg (by rw [hk]; simp)]
          . refine hbad (i := i.toNat) (by omega) ?_
            rw [hR, if_neg (fun hc => hg hc.1)]
        . refine hbad (i := i.toNat) (by omega) ?_
          rw [rdT, if_neg (fun hc => h48 hc.1)]
      . rw [take_all (by omega)] at h3 h4
        rw [hD, if_pos ⟨h.1.1, hne, by omega, List.all_eq_true.2 h4⟩, h3]
    . rw [hD, if_neg]
      rintro ⟨c1, c2, c3, _⟩
      have : 0 < L.length := List.length_pos_iff.2 c2
      rw [decide_eq_true c1, decide_eq_true (show (0 : Int) < L.length by omega), decide_eq_true (show (L.length : Int) ≤ 16 by omega)] at h
      cases h
theorem h49 : c_ext_toTrees.ok Tryz.prog GL 49 := conO_ok (H := {}) (mkEnvO_ok (gl := GL) (l := [(77, conSem c_ext_take), (72, conSem c_der_All), (42, conSem c_ext_must), (102, conSem c_der_One), (63, conSem c_ext_general), (94, conSem c_within_May)]) (q := []) (d := []) _ [1000000] tyOk (by kernel_rfl) ⟨h77.call, h72.call, h42.call, h102.call, h63.call, h94.call, trivial⟩ trivial trivial) (by kernel_rfl) (by kernel_rfl) (Eq.mp e49 k49)
noncomputable def i101 : DefSem := vcDef (mkEnv ty [] [] [] [0, 1, 2, 4, 5, 8, 15]) {} Tryz.f101.ntmps Tryz.f101.results.toList (bodyOf Tryz.f101)
theorem i101_ok : DefOk Tryz.prog GL 101 i101 := def_ok {} (mkEnv_ok (gl := GL) (l := []) (q := []) (d := []) _ tyOk (by kernel_rfl) trivial trivial trivial) (by kernel_rfl) (by kernel_rfl)
noncomputable def i48 : CallSem := vcFn (mkEnvO ty [(50, conSem c_ext_inside), (49, conSem c_ext_toTrees), (42, conSem c_ext_must)] [] [] [0, 1, 2, 3, 4] [1000000,30]) {} Tryz.f48.ntmps Tryz.f48.results.toList (bodyOf Tryz.f48)
theorem i48_ok : CallOk Tryz.prog GL 48 i48 := inlO_ok {} (mkEnvO_ok (gl := GL) (l := [(50, conSem c_ext_inside), (49, conSem c_ext_toTrees), (42, conSem c_ext_must)]) (q := []) (d := []) _ [1000000,30] tyOk (by kernel_rfl) ⟨h50.call, h49.call, h42.call, trivial⟩ trivial trivial) (by kernel_rfl) (by kernel_rfl)
noncomputable def i47 : CallSem := vcFn (mkEnv ty [(48, i48)] [] [(101, i101)] [0, 2, 3]) {} Tryz.f47.ntmps Tryz.f47.results.toList (bodyOf Tryz.f47)
theorem i47_ok : CallOk Tryz.prog GL 47 i47 := inl_ok {} (mkEnv_ok (gl := GL) (l := [(48, i48)]) (q := []) (d := [(101, i101)]) _ tyOk (by kernel_rfl) ⟨i48_ok, trivial⟩ trivial ⟨i101_ok, trivial⟩) (by kernel_rfl) (by kernel_rfl)
def t11 : Prop :=
  ∀ (x : q5), (q160 x) -> lenB x.1 <= q349 -> List.length [SV.dat q404 x.1] <= q69 /\ q74 <= q69 /\ q74 <= q69 /\ q42 <= q69 /\ q74 <= q69 /\ lenB x.1 <= q349 /\ (∀ (y : q14), (Kd.wf q192 y.1
  /\ True) -> insD x.1 q233 = (y.1, true) -> lenEs y.1 <= q349 /\ (∀ (y_1 : q26), (q362 y_1) -> rdS y.1 (160 : Int) = (y_1.1, y_1.2.1, true) -> lenEs y_1.2.1 <= q349 /\ (∀ (y : q26), (q362 y)
  -> rdS y_1.2.1 (161 : Int) = (y.1, y.2.1, true) -> (decide (q422 y) = true -> True) /\ (q363 y) /\ (decide (q422 y) = true -> True) /\ (q363 y) /\ (decide (q422 y) = true -> (decide (q422
  y) == true) = true /\ (decide (q422 y) == true) = true /\ True) /\ (q363 y) /\ (decide (q422 y) = true -> (decide (q422 y) == true) = true) /\ True /\ (∀ (y_2 : Unit), True -> (bif decide
  (q422 y) then decide (q40 < wrZ ((lnZ y_1.1) + (lnZ y.1))) else false) = true -> ((y_1.1, y.1), q40) = ToTreesD x.1) /\ ∀ (y_2 : Unit), Kd.wf Kd.unit y_2 -> (bif decide (q422 y) then decide
  (q40 < wrZ ((lnZ y_1.1) + (lnZ y.1))) else false) = false -> q71 <= q69 /\ q74 <= q69 /\ (([], []), (150 : Int)) = ToTreesD x.1) /\ ∀ (y : Unit), Kd.wf Kd.unit y -> (rdS y_1.2.1 (161 :
  Int)).2.2 = false -> q71 <= q69 /\ q74 <= q69 /\ (([], []), (150 : Int)) = ToTreesD x.1) /\ ∀ (y_1 : Unit), Kd.wf Kd.unit y_1 -> (rdS y.1 (160 : Int)).2.2 = false -> q71 <= q69 /\ q74 <=
  q69 /\ (([], []), (150 : Int)) = ToTreesD x.1) /\ ∀ (y : Unit), Kd.wf Kd.unit y -> (insD x.1 q233).2 = false -> q71 <= q69 /\ q74 <= q69 /\ (([], []), (150 : Int)) = ToTreesD x.1
theorem e11 : t11 = Con.vc c_ext_ToTrees GL (mkEnv ty [(47, i47)] [] [] [0, 1, 2, 3]) {} Tryz.f11.ntmps Tryz.f11.results.toList (bodyOf Tryz.f11) := by kernel_rfl
theorem k11 : t11 := by
  unfold t11
  delta q5 q160 q349 q404 q69 q74 q42 q14 q192 q233 q26 q362 q422 q363 q40 wrZ lnZ q71 wyZ q488 q403 q440 q450 q482 q494 q500 q512
  rintro ⟨b, _⟩ hx hp
  have hp : b.length ≤ 2000000 := hp
  have hb : Bys b := sl_bys hx.1
  try dsimp +instances only [dft_int, dft_sl, dft_str]
  simp only [true_and, and_true, eq_self_iff_true, implies_true, reduceCtorEq, false_implies, true_implies, decide_eq_true_eq, decide_eq_false_iff_not, beq_self_eq_true, Bool.not_eq_true', ne_eq, Decidable.not_not, List.nil_append, List.length_singleton, List.length_cons, List.length_nil, Nat.zero_add, Nat.add_zero, Nat.mul_one, and_self, beq_iff_eq, Bool.not_true, Bool.not_false, Bool.not_eq_false', Bool.cond_false_right, Bool.and_eq_true, imp_self, Bool.not_eq_true, Bool.cond_true_left, Bool.or_eq_true]
  refine ⟨by decide, by decide, by decide, by decide, by decide, hp, ?_, fun _ _ h => ⟨by decide, by decide, ?_⟩⟩
  . rintro ⟨L, _⟩ _ e
    simp only at e ⊢
    have hLs : lenEs L ≤ 2000000 := by
      have h1 := ins_of (b := b) (t := 48) hb (by rw [e])
      rw [e] at h1
      simp only at h1
      have h2 := cont_sum L
      have h3 := put_cont (48, L.flatMap putB)
      rw [h1.1] at h3
      simp only at h3
      exact Nat.le_trans h2 (Nat.le_trans h3 hp)
    have hD : ToTreesD b = if (rdTs L).2 = true then ((rdTs L).1, 0) else (([], []), 150) := by
      rw [ToTreesD, e]; simp only [true_and]
    refine ⟨hLs, ?_, fun _ _ h => ⟨by decide, by decide, ?_⟩⟩
    . rintro ⟨p, r, _⟩ ⟨hwp, _⟩ e1
      simp only at e1 hwp ⊢
      have hrs : lenEs r ≤ 2000000 := by
        have h9 := rdS_rest (l := L) (t := 160) (by rw [e1])
        rw [e1] at h9
        exact Nat.le_trans h9 hLs
      refine ⟨hrs, ?_, fun _ _ h => ⟨by decide, by decide, ?_⟩⟩
      . rintro ⟨x, s, _⟩ ⟨hwx, _⟩ e2
        simp only at e2 hwx ⊢
        have hpl : p.length ≤ 16 ∧ x.length ≤ 16 := ⟨by have := rdS_few L 160; rw [e1] at this; exact this, by have := rdS_few r 161; rw [e2] at this; exact this⟩
        have hT : rdTs L = if s = [] ∧ ¬ (p = [] ∧ x = []) then ((p, x), true) else (([], []), false) := by
          rw [rdTs, e1]; simp only
          rw [e2]; simp only [true_and]
        rw [wrapM _ (by omega) (by omega)]
        refine ⟨fun _ h => ?_, fun _ _ h => ⟨by decide, by decide, ?_⟩⟩
        . have hs : s = [] := List.length_eq_zero_iff.1 (by omega)
          have hne : ¬ (p = [] ∧ x = []) := by
            rintro ⟨rfl, rfl⟩
            exact absurd h.2 (by decide)
          rw [if_pos ⟨hs, hne⟩] at hT
          rw [hD, hT, if_pos rfl]
        . rw [if_neg] at hT
          . rw [hD, hT, if_neg (by decide)]
          . rintro ⟨h1, h2⟩
            have h3 : (0 : Int) < p.length + x.length := by
              by_cases hc : p = []
              . have : x ≠ [] := fun hx => h2 ⟨hc, hx⟩
                have := List.length_pos_iff.2 this
                omega
              . have := List.length_pos_iff.2 hc
                omega
            rw [h1, decide_eq_true h3] at h
            simp at h
      . rw [hD, if_neg]
        rw [rdTs, e1, if_neg]
        . decide
        . rintro ⟨_, hc, _⟩
          simp only at hc
          rw [h] at hc; cases hc
    . rw [hD, if_neg]
      rw [rdTs, if_neg]
      . decide
      . rintro ⟨hc, _⟩
        rw [h] at hc; cases hc
  . rw [ToTreesD, if_neg]
    rintro ⟨h1, _⟩
    rw [h] at h1; cases h1
theorem h11 : c_ext_ToTrees.ok Tryz.prog GL 11 := con_ok (H := {}) (mkEnv_ok (gl := GL) (l := [(47, i47)]) (q := []) (d := []) _ tyOk (by kernel_rfl) ⟨i47_ok, trivial⟩ trivial trivial) (by kernel_rfl) (by kernel_rfl) (Eq.mp e11 k11)
def t51 : Prop :=
  ∀ (x : q5), (q160 x) -> lenB x.1 <= q349 -> lenB x.1 <= q84 /\ (∀ (y : q19), (q188 y) -> (y.1, y.2.1, y.2.2.1) = takeD x.1 -> q74 <= q69 /\ lenB y.1.2 <= q84 /\ (∀ (y_1 : q21), (q207 y_1)
  -> y_1.1 = List.map (fun (x : q20) => x.2) (rowD y.1.2).1 /\ y_1.2.1 = List.map (fun (x : q20) => x.1) (rowD y.1.2).1 /\ (y_1.2.2.1, y_1.2.2.2.1) = (rowD y.1.2).2 -> y_1.1 = insL x.1) /\
  True) /\ True
theorem e51 : t51 = Con.vc c_r15_Inside GL (mkEnvO ty [(53, conSem c_r01_Take), (52, conSem c_r01_Row)] [] [] [0, 2, 3, 6] [1000000]) {} Tryz.f51.ntmps Tryz.f51.results.toList (bodyOf Tryz.f51) := by kernel_rfl
theorem k51 : t51 := by
  unfold t51
  delta q5 q160 q349 q84 q19 q188 q74 q69 q21 q207 q20 wyZ q403 wiZ q450 q494 q512
  rintro ⟨b, _⟩ hx hp
  have hp : b.length ≤ 2000000 := hp
  try dsimp +instances only [dft_int, dft_sl, dft_str]
  simp only [true_and, and_true, eq_self_iff_true, implies_true, reduceCtorEq, false_implies, true_implies, decide_eq_true_eq, decide_eq_false_iff_not, beq_self_eq_true, Bool.not_eq_true', ne_eq, Decidable.not_not, List.nil_append, List.length_singleton, List.length_cons, List.length_nil, Nat.zero_add, Nat.add_zero, Nat.mul_one, and_self, beq_iff_eq, Bool.not_true, Bool.not_false, Bool.not_eq_false', Bool.cond_false_right, Bool.and_eq_true, imp_self, Bool.not_eq_true, Bool.cond_true_left, Bool.or_eq_true]
  refine ⟨by show b.length ≤ _; omega, ?_⟩
  rintro ⟨⟨t, c⟩, n, f, _⟩ _ e
  simp only at e ⊢
  have hc := takeD_len b
  rw [← e] at hc
  simp only at hc
  refine ⟨by decide, by show c.length ≤ _; omega, ?_⟩
  rintro ⟨l, q, n2, f2, _⟩ _ ⟨h1, h2, h3⟩
  simp only at h1 ⊢
  rw [h1, insL, ← e]
theorem h51 : c_r15_Inside.ok Tryz.prog GL 51 := conO_ok (H := {}) (mkEnvO_ok (gl := GL) (l := [(53, conSem c_r01_Take), (52, conSem c_r01_Row)]) (q := []) (d := []) _ [1000000] tyOk (by kernel_rfl) ⟨h53.call, h52.call, trivial⟩ trivial trivial) (by kernel_rfl) (by kernel_rfl) (Eq.mp e51 k51)
def t46 : Prop :=
  ∀ (x : q12), (wiZ x.1 /\ wsZ x.2.1 /\ True) -> q40 <= x.1 /\ x.1 <= (31 : Int) /\ lenB x.2.1 <= q349 -> (decide (x.1 = q73) = true -> (q40 <= (164 : Int) /\ (164 : Int) <= q395 /\ lenB
  x.2.1 <= q197) /\ (∀ (y : q5), (q160 y) -> y.1 = putB ((164 : Int), x.2.1) -> y.1 = genB (x.1, x.2.1)) /\ True) /\ (decide (x.1 = q73) = false -> (q40 <= wrZ (q96 + x.1) /\ wrZ (q96 + x.1)
  <= q395 /\ lenB x.2.1 <= q197) /\ (∀ (y : q5), (q160 y) -> y.1 = putB (wrZ (q96 + x.1), x.2.1) -> y.1 = genB (x.1, x.2.1)) /\ True)
theorem e46 : t46 = Con.vc c_r15_general GL (mkEnvO ty [(45, conSem c_r15_Put)] [] [] [0, 1, 4, 6] [1000000]) {} Tryz.f46.ntmps Tryz.f46.results.toList (bodyOf Tryz.f46) := by kernel_rfl
theorem k46 : t46 := by
  unfold t46
  delta q12 wiZ wsZ q40 q349 q73 q395 q197 q5 q160 wrZ q96 wyZ
  rintro ⟨k, s, _⟩ hx hp
  have hp : 0 ≤ k ∧ k ≤ 31 ∧ s.length ≤ 2000000 := hp
  try dsimp +instances only [dft_int, dft_sl, dft_str]
  simp only [true_and, and_true, eq_self_iff_true, implies_true, reduceCtorEq, false_implies, true_implies, decide_eq_true_eq, decide_eq_false_iff_not, beq_self_eq_true, Bool.not_eq_true', ne_eq, Decidable.not_not, List.nil_append, List.length_singleton, List.length_cons, List.length_nil, Nat.zero_add, Nat.add_zero, Nat.mul_one, and_self, beq_iff_eq, Bool.not_true, Bool.not_false, Bool.not_eq_false', Bool.cond_false_right, Bool.and_eq_true, imp_self, Bool.not_eq_true, Bool.cond_true_left, Bool.or_eq_true]
  refine ⟨fun h => ⟨⟨by decide, by decide, by show s.length ≤ _; omega⟩, ?_⟩, fun h => ?_⟩
  . rintro ⟨d, _⟩ _ e
    simp only at e ⊢
    rw [e, genB, elG, tagG, if_pos h]
  . rw [wrapM _ (by omega) (by omega)]
    refine ⟨⟨by omega, by omega, by show s.length ≤ _; omega⟩, ?_⟩
    rintro ⟨d, _⟩ _ e
    simp only at e ⊢
    rw [e, genB, elG, tagG, if_neg h]
theorem h46 : c_r15_general.ok Tryz.prog GL 46 := conO_ok (H := {}) (mkEnvO_ok (gl := GL) (l := [(45, conSem c_r15_Put)]) (q := []) (d := []) _ [1000000] tyOk (by kernel_rfl) ⟨h45.call, trivial⟩ trivial trivial) (by kernel_rfl) (by kernel_rfl) (Eq.mp e46 k46)
def t8 : Prop :=
  ∀ (x : q30), (q357 x) -> lenG x.1.1 <= q349 /\ lenG x.1.2 <= q349 -> List.length [SV.dat q244 x.1.1, SV.dat q244 x.1.2] <= q69 /\ ∃ (I : q31), ∃ (μ : q32), (x.1 = x.1 /\ x.1.1 = x.1.1 /\
  x.1.2 = x.1.2 /\ [x.1.1, x.1.2] = [x.1.1, x.1.2] /\ I (q40, q40, ()) ((), [], [], ())) /\ ∀ (y : q6) (z : Unit × List Int × List Int × Unit), (q94 y) -> True /\ (wyZ z.2.1 /\ wyZ z.2.2.1 /\
  True) -> I y z -> (decide (y.1 < q75) = true -> (q369 y x) /\ (decide (q367 x y) = true -> ([], (150 : Int)) = TreesD x.1) /\ (decide (q367 x y) = false -> ∃ (I_1 : q31), ∃ (μ_1 : q32),
  (Value.bool false = Value.bool false /\ Value.bool true = Value.bool true /\ y.1 = y.1 /\ x.1 = x.1 /\ x.1.1 = x.1.1 /\ x.1.2 = x.1.2 /\ [x.1.1, x.1.2] = [x.1.1, x.1.2] /\ z.2.1 = z.2.1 /\
  I_1 (q40, y.2.1, ()) ((), z.2.2.1, [], ())) /\ ∀ (y_1 : q6) (z_1 : Unit × List Int × List Int × Unit), (q94 y_1) -> True /\ (wyZ z_1.2.1 /\ wyZ z_1.2.2.1 /\ True) -> I_1 y_1 z_1 -> (q369 y
  x) /\ (decide (y_1.1 < (q368 x y)) = true -> (q369 y x) /\ (q366 y_1 x y) /\ List.length (q365 x y y_1).2 <= q155 /\ (∀ (y_2 : q4), (q47 y_2) -> y_2.1 = mayT (q365 x y y_1).1 (q365 x y
  y_1).2 -> ((!y_2.1) = true -> ([], (150 : Int)) = TreesD x.1) /\ ((!y_2.1) = false -> (q369 y x) /\ (q369 y x) /\ ((q366 y_1 x y) /\ (((q366 y_1 x y) /\ (((q364 x y y_1) /\ (∀ (y_3 : q5),
  (q160 y_3) -> y_3.1 = genB ((q365 x y y_1).1, (q365 x y y_1).2) -> ((q231 y_3) /\ (∀ (y_4 : q5), (q160 y_4) -> y_4.1 = putB (q233, y_3.1) -> (q71 < q42 /\ (List.length z_1.2.2.1 +
  List.length y_4.1) * q42 <= q159 /\ List.length z_1.2.2.1 + List.length y_4.1 <= q158 /\ Value.bool false = Value.bool false /\ Value.bool true = Value.bool true /\ y.1 = y.1 /\ x.1 = x.1
  /\ x.1.1 = x.1.1 /\ x.1.2 = x.1.2 /\ [x.1.1, x.1.2] = [x.1.1, x.1.2] /\ z.2.1 = z.2.1 /\ I_1 (wrZ (q95 y_1), y_1.2.1, ()) ((), z_1.2.1, z_1.2.2.1 ++ y_4.1, ()) /\ μ_1 (wrZ (q95 y_1),
  y_1.2.1, ()) ((), z_1.2.1, z_1.2.2.1 ++ y_4.1, ()) < μ_1 y_1 z_1) /\ True) /\ True) /\ True) /\ True) /\ True) /\ True) /\ True) /\ ((q366 y_1 x y) /\ ((((q364 x y y_1) /\ (∀ (y_3 : q5),
  (q160 y_3) -> y_3.1 = genB ((q365 x y y_1).1, (q365 x y y_1).2) -> ((q231 y_3) /\ (∀ (y_4 : q5), (q160 y_4) -> y_4.1 = putB (q233, y_3.1) -> (q71 < q42 /\ (List.length z_1.2.2.1 +
  List.length y_4.1) * q42 <= q159 /\ List.length z_1.2.2.1 + List.length y_4.1 <= q158 /\ Value.bool false = Value.bool false /\ Value.bool true = Value.bool true /\ y.1 = y.1 /\ x.1 = x.1
  /\ x.1.1 = x.1.1 /\ x.1.2 = x.1.2 /\ [x.1.1, x.1.2] = [x.1.1, x.1.2] /\ z.2.1 = z.2.1 /\ I_1 (wrZ (q95 y_1), y_1.2.1, ()) ((), z_1.2.1, z_1.2.2.1 ++ y_4.1, ()) /\ μ_1 (wrZ (q95 y_1),
  y_1.2.1, ()) ((), z_1.2.1, z_1.2.2.1 ++ y_4.1, ()) < μ_1 y_1 z_1) /\ True) /\ True) /\ True) /\ True) /\ True) /\ True) /\ ((((q364 x y y_1) /\ (∀ (y_3 : q5), (q160 y_3) -> y_3.1 = genB
  ((q365 x y y_1).1, (q365 x y y_1).2) -> ((q231 y_3) /\ (∀ (y_4 : q5), (q160 y_4) -> y_4.1 = putB (q233, y_3.1) -> (q71 < q42 /\ (List.length z_1.2.2.1 + List.length y_4.1) * q42 <= q159 /\
  List.length z_1.2.2.1 + List.length y_4.1 <= q158 /\ Value.bool false = Value.bool false /\ Value.bool true = Value.bool true /\ y.1 = y.1 /\ x.1 = x.1 /\ x.1.1 = x.1.1 /\ x.1.2 = x.1.2 /\
  [x.1.1, x.1.2] = [x.1.1, x.1.2] /\ z.2.1 = z.2.1 /\ I_1 (wrZ (q95 y_1), y_1.2.1, ()) ((), z_1.2.1, z_1.2.2.1 ++ y_4.1, ()) /\ μ_1 (wrZ (q95 y_1), y_1.2.1, ()) ((), z_1.2.1, z_1.2.2.1 ++
  y_4.1, ()) < μ_1 y_1 z_1) /\ True) /\ True) /\ True) /\ True) /\ True) /\ True) /\ True) /\ True) /\ ((q366 y_1 x y) /\ ((q366 y_1 x y) /\ ((((q364 x y y_1) /\ (∀ (y_3 : q5), (q160 y_3) ->
  y_3.1 = genB ((q365 x y y_1).1, (q365 x y y_1).2) -> ((q231 y_3) /\ (∀ (y_4 : q5), (q160 y_4) -> y_4.1 = putB (q233, y_3.1) -> (q71 < q42 /\ (List.length z_1.2.2.1 + List.length y_4.1) *
  q42 <= q159 /\ List.length z_1.2.2.1 + List.length y_4.1 <= q158 /\ Value.bool false = Value.bool false /\ Value.bool true = Value.bool true /\ y.1 = y.1 /\ x.1 = x.1 /\ x.1.1 = x.1.1 /\
  x.1.2 = x.1.2 /\ [x.1.1, x.1.2] = [x.1.1, x.1.2] /\ z.2.1 = z.2.1 /\ I_1 (wrZ (q95 y_1), y_1.2.1, ()) ((), z_1.2.1, z_1.2.2.1 ++ y_4.1, ()) /\ μ_1 (wrZ (q95 y_1), y_1.2.1, ()) ((), z_1.2.1,
  z_1.2.2.1 ++ y_4.1, ()) < μ_1 y_1 z_1) /\ True) /\ True) /\ True) /\ True) /\ True) /\ True) /\ ((((q364 x y y_1) /\ (∀ (y_3 : q5), (q160 y_3) -> y_3.1 = genB ((q365 x y y_1).1, (q365 x y
  y_1).2) -> ((q231 y_3) /\ (∀ (y_4 : q5), (q160 y_4) -> y_4.1 = putB (q233, y_3.1) -> (q71 < q42 /\ (List.length z_1.2.2.1 + List.length y_4.1) * q42 <= q159 /\ List.length z_1.2.2.1 +
  List.length y_4.1 <= q158 /\ Value.bool false = Value.bool false /\ Value.bool true = Value.bool true /\ y.1 = y.1 /\ x.1 = x.1 /\ x.1.1 = x.1.1 /\ x.1.2 = x.1.2 /\ [x.1.1, x.1.2] = [x.1.1,
  x.1.2] /\ z.2.1 = z.2.1 /\ I_1 (wrZ (q95 y_1), y_1.2.1, ()) ((), z_1.2.1, z_1.2.2.1 ++ y_4.1, ()) /\ μ_1 (wrZ (q95 y_1), y_1.2.1, ()) ((), z_1.2.1, z_1.2.2.1 ++ y_4.1, ()) < μ_1 y_1 z_1) /\
  True) /\ True) /\ True) /\ True) /\ True) /\ True) /\ True) /\ (((q366 y_1 x y) /\ (((q364 x y y_1) /\ (∀ (y_3 : q5), (q160 y_3) -> y_3.1 = genB ((q365 x y y_1).1, (q365 x y y_1).2) ->
  ((q231 y_3) /\ (∀ (y_4 : q5), (q160 y_4) -> y_4.1 = putB (q233, y_3.1) -> (q71 < q42 /\ (List.length z_1.2.2.1 + List.length y_4.1) * q42 <= q159 /\ List.length z_1.2.2.1 + List.length
  y_4.1 <= q158 /\ Value.bool false = Value.bool false /\ Value.bool true = Value.bool true /\ y.1 = y.1 /\ x.1 = x.1 /\ x.1.1 = x.1.1 /\ x.1.2 = x.1.2 /\ [x.1.1, x.1.2] = [x.1.1, x.1.2] /\
  z.2.1 = z.2.1 /\ I_1 (wrZ (q95 y_1), y_1.2.1, ()) ((), z_1.2.1, z_1.2.2.1 ++ y_4.1, ()) /\ μ_1 (wrZ (q95 y_1), y_1.2.1, ()) ((), z_1.2.1, z_1.2.2.1 ++ y_4.1, ()) < μ_1 y_1 z_1) /\ True) /\
  True) /\ True) /\ True) /\ True) /\ True) /\ True) /\ True) /\ True)) /\ True) /\ (decide (y_1.1 < (q368 x y)) = false -> (decide (q40 < (lnZ z_1.2.2.1)) = true -> (q40 <= wrZ ((160 : Int)
  + y.1) /\ wrZ ((160 : Int) + y.1) <= q395 /\ lenB z_1.2.2.1 <= q197) /\ (∀ (y_2 : q5), (q160 y_2) -> y_2.1 = putB (wrZ ((160 : Int) + y.1), z_1.2.2.1) -> q71 < q42 /\ (List.length z.2.1 +
  List.length y_2.1) * q42 <= q159 /\ List.length z.2.1 + List.length y_2.1 <= q158 /\ x.1 = x.1 /\ x.1.1 = x.1.1 /\ x.1.2 = x.1.2 /\ [x.1.1, x.1.2] = [x.1.1, x.1.2] /\ I (wrZ (q95 y),
  y_1.2.1, ()) ((), z.2.1 ++ y_2.1, z_1.2.1, ()) /\ μ (wrZ (q95 y), y_1.2.1, ()) ((), z.2.1 ++ y_2.1, z_1.2.1, ()) < μ y z) /\ True) /\ (decide (q40 < (lnZ z_1.2.2.1)) = false -> x.1 = x.1 /\
  x.1.1 = x.1.1 /\ x.1.2 = x.1.2 /\ [x.1.1, x.1.2] = [x.1.1, x.1.2] /\ I (wrZ (q95 y), y_1.2.1, ()) ((), z.2.1, z_1.2.1, ()) /\ μ (wrZ (q95 y), y_1.2.1, ()) ((), z.2.1, z_1.2.1, ()) < μ y
  z)))) /\ (decide (y.1 < q75) = false -> (decide ((lnZ z.2.1) = q40) = true -> ([], (150 : Int)) = TreesD x.1) /\ (decide ((lnZ z.2.1) = q40) = false -> (q40 <= q233 /\ q233 <= q395 /\ lenB
  z.2.1 <= q197) /\ (∀ (y : q5), (q160 y) -> y.1 = putB (q233, z.2.1) -> (y.1, q40) = TreesD x.1) /\ True))
theorem e8 : t8 = Con.vc c_r15_Trees GL (mkEnvO ty [(44, conSem c_r14_May), (46, conSem c_r15_general), (45, conSem c_r15_Put)] [] [] [0, 1, 2, 3, 4, 5, 6, 7, 8, 15, 23, 30, 41, 64, 73] [1000000]) {} Tryz.f8.ntmps Tryz.f8.results.toList (bodyOf Tryz.f8) := by kernel_rfl
theorem k8 : t8 := by
  unfold t8
  delta q30 q357 q349 q244 q69 q31 q32 q40 q6 q94 wyZ q75 q369 q367 q368 q366 q365 q155 q4 q47 q364 q5 q160 q231 q233 q71 q42 q159 q158 wrZ q95 lnZ q395 q197 q476 q415 wiZ q379 q478 q393 wbZ q477 q383 q420 q417 q506 q494 q500
  rintro ⟨⟨p, x⟩, _⟩ hx hp
  have hp : lenG p ≤ 2000000 ∧ lenG x ≤ 2000000 := hp
  try dsimp +instances only [dft_int, dft_sl, dft_str]
  simp only [true_and, and_true, eq_self_iff_true, implies_true, reduceCtorEq, false_implies, true_implies, decide_eq_true_eq, decide_eq_false_iff_not, beq_self_eq_true, Bool.not_eq_true', ne_eq, Decidable.not_not, List.nil_append, List.length_singleton, List.length_cons, List.length_nil, Nat.zero_add, Nat.add_zero, Nat.mul_one, and_self, beq_iff_eq, Bool.not_true, Bool.not_false, Bool.not_eq_false', Bool.cond_false_right, Bool.and_eq_true, imp_self, Bool.not_eq_true, Bool.cond_true_left, Bool.or_eq_true]
  have hdG : ((Kd.int IntKind.i64).pair Kd.str).dft = gdft := rfl
  try simp only [hdG]
  have bad : okTr p = false ∨ okTr x = false ∨ (p = [] ∧ x = []) → ([], (150 : Int)) = TreesD (p, x) := fun h => by
    rw [TreesD, if_pos]
    cases hb : badTr (p, x) with
    | true => rfl
    | false =>
      obtain ⟨h1, h2, h3, h4, h5⟩ := badTr_no (t := (p, x)) (by rw [hb]; decide)
      have o1 : okTr p = true := by rw [okTr, decide_eq_true h1, Bool.true_and]; exact List.all_eq_true.2 h3
      have o2 : okTr x = true := by rw [okTr, decide_eq_true h2, Bool.true_and]; exact List.all_eq_true.2 h4
      rcases h with h | h | h
      . rw [o1] at h; cases h
      . rw [o2] at h; cases h
      . exact absurd h h5
  have slen : ∀ (t : Int) {l : List GenT}, l.length ≤ 16 → lenG l ≤ 2000000 → ((subs t l).flatMap putB).length ≤ 2100000 := fun t {l} h hl => by
    have h1 := elTs_len l
    rw [subs_put]
    split
    . simp
    . rw [put_len]
      have := (lng_len (n := ((l.flatMap fun t => putB (elT t)).length : Int))).2
      simp only
      omega
  refine ⟨by decide, fun y z => 0 ≤ y.1 ∧ y.1 ≤ 2 ∧ z.2.1 = (if 1 ≤ y.1 then (subs 160 p).flatMap putB else []) ++ (if 2 ≤ y.1 then (subs 161 x).flatMap putB else []) ∧ (1 ≤ y.1 → okTr p = true) ∧ (2 ≤ y.1 → okTr x = true), fun y _ => (2 - y.1).toNat, ⟨Int.le_refl 0, by show (0 : Int) ≤ 2; decide, by simp, fun h => absurd h (by decide), fun h => absurd h (by decide)⟩, ?_⟩
  rintro ⟨k, r, _⟩ ⟨z1, b, own0, _⟩ _ _ ⟨h0, h1, h2, h3, h4⟩
  simp only at h0 h1 h2 h3 h4 ⊢
  refine ⟨fun hk => ?_, fun hk => ?_⟩
  . have key : ∃ (l : List GenT) (t : Int), [p, x].getD k.toNat [] = l ∧ t = 160 + k ∧ lenG l ≤ 2000000 ∧ (okTr l = false → ([], (150 : Int)) = TreesD (p, x)) ∧ b.length ≤ 2100000 ∧ ∀ c : List Int, okTr l = true → c = (subs t l).flatMap putB → (b ++ c) = (if 1 ≤ k + 1 then (subs 160 p).flatMap putB else []) ++ (if 2 ≤ k + 1 then (subs 161 x).flatMap putB else []) ∧ (1 ≤ k + 1 → okTr p = true) ∧ (2 ≤ k + 1 → okTr x = true) := by
      by_cases hk0 : k = 0
      . subst hk0
        refine ⟨p, 160, rfl, rfl, hp.1, fun h => bad (.inl h), by rw [h2]; simp, fun c hc e => ⟨?_, fun _ => hc, fun h => absurd h (by decide)⟩⟩
        rw [h2, e]; simp
      . have hk1 : k = 1 := by omega
        subst hk1
        have hop := h3 (by decide)
        refine ⟨x, 161, rfl, rfl, hp.2, fun h => bad (.inr (.inl h)), ?_, fun c hc e => ⟨?_, fun _ => hop, fun _ => hc⟩⟩
        . rw [h2]
          have := slen 160 (of_decide_eq_true (Bool.and_eq_true_iff.1 hop).1) hp.1
          simpa using this
        . rw [h2, e]; simp
    obtain ⟨l, t, hl, ht, hgl, hbad, hbl, hnext⟩ := key
    simp only [hl]
    refine ⟨⟨h0, by omega⟩, fun h16 => hbad (by rw [okTr, decide_eq_false (show ¬ l.length ≤ 16 by omega), Bool.false_and]), fun h16 => ?_⟩
    have hels := elTs_len l
    refine ⟨fun y z => 0 ≤ y.1 ∧ y.1 ≤ l.length ∧ z.2.2.1 = (l.take y.1.toNat).flatMap (fun t => putB (elT t)) ∧ ∀ g ∈ l.take y.1.toNat, mayTr g = true, fun y _ => ((l.length : Int) - y.1).toNat, ⟨Int.le_refl 0, by simp only; omega, rfl, by simp⟩, ?_⟩
    rintro ⟨j, r2, _⟩ ⟨y1, y2, own, _⟩ _ _ ⟨g0, g1, g2, g3⟩
    simp only at g0 g1 g2 g3 ⊢
    have hol : own.length ≤ 2000200 := by
      have h5 := elTs_len (l.take j.toNat)
      have h6 := lenG_take l j.toNat
      have h7 : (l.take j.toNat).length ≤ 16 := by rw [List.length_take]; omega
      rw [g2]; omega
    refine ⟨⟨h0, by omega⟩, fun hj => ?_, fun hj => ?_⟩
    . have hmem := gd_mem l gdft j.toNat (by omega)
      have hml := sum_mem hmem
      refine ⟨⟨h0, by omega⟩, ⟨g0, hj⟩, by omega, ?_⟩
      rintro ⟨y, _⟩ _ e
      simp only at e ⊢
      refine ⟨fun hy => ?_, fun hy => ?_⟩
      . refine hbad ?_
        rw [okTr]
        cases ha : l.all mayTr with
        | false => rw [Bool.and_false]
        | true =>
          have := List.all_eq_true.1 ha _ hmem
          have hf : mayTr (l.getD j.toNat gdft) = false := e.symm.trans hy
          rw [hf] at this; cases this
      . have hmay : mayTr (l.getD j.toNat gdft) = true := e.symm.trans hy
        have hk := mayTr_kind hmay
        have hkr : 0 ≤ (l.getD j.toNat gdft).1 ∧ (l.getD j.toNat gdft).1 ≤ 31 := by
          rcases hk with h | h | h | h <;> rw [h] <;> decide
        refine ⟨⟨h0, by omega⟩, ⟨h0, by omega⟩, ⟨g0, hj⟩, ⟨g0, hj⟩, ⟨hkr.1, hkr.2, by show (l.getD j.toNat gdft).2.length ≤ _; omega⟩, ?_⟩
        rintro ⟨d, _⟩ _ e4
        simp only at e4 ⊢
        have e5 : d = genB (l.getD j.toNat gdft) := e4
        have hd5 := genB_len (l.getD j.toNat gdft)
        rw [← e5] at hd5
        refine ⟨⟨by decide, by decide, by show d.length ≤ _; omega⟩, ?_⟩
        rintro ⟨d2, _⟩ _ e6
        simp only at e6 ⊢
        have hd2 : d2.length ≤ 2000100 := by
          rw [e6, put_len]
          have := (lng_len (n := (d.length : Int))).2
          simp only; omega
        rw [wrapM (j + 1) (by omega) (by omega)]
        refine ⟨by decide, by omega, by omega, ⟨by omega, by omega, ?_, ?_⟩, by omega⟩
        . rw [show (j + 1).toNat = j.toNat + 1 by omega, flat_take (fun t => putB (elT t)) l gdft j.toNat (by omega), g2, e6, e5]
          rfl
        . rw [show (j + 1).toNat = j.toNat + 1 by omega]
          exact all_take gdft (by omega) g3 hmay
    . rw [take_all (by omega)] at g2 g3
      have hok : okTr l = true := by rw [okTr, decide_eq_true (show l.length ≤ 16 by omega), Bool.true_and]; exact List.all_eq_true.2 g3
      rw [wrapM (k + 1) (by omega) (by omega), wrapM (160 + k) (by omega) (by omega)]
      refine ⟨fun hpos => ⟨⟨by omega, by omega, by show own.length ≤ _; omega⟩, ?_⟩, fun hpos => ?_⟩
      . rintro ⟨d, _⟩ _ e
        simp only at e ⊢
        have hne : l ≠ [] := fun hc => by rw [g2, hc] at hpos; exact absurd hpos (by decide)
        have hd : d.length ≤ 2000300 := by
          rw [e, put_len]
          have := (lng_len (n := (own.length : Int))).2
          simp only; omega
        obtain ⟨n1, n2, n3⟩ := hnext d hok (by rw [subs_put, if_neg hne, e, g2, ht])
        exact ⟨by decide, by omega, by omega, ⟨by omega, by omega, n1, n2, n3⟩, by omega⟩
      . have hnil : l = [] := by
          by_cases hc : l = []
          . exact hc
          . have := elT_pos hc
            rw [← g2] at this
            exact absurd (show (0 : Int) < own.length by omega) hpos
        obtain ⟨n1, n2, n3⟩ := hnext [] hok (by rw [subs_put, if_pos hnil])
        rw [List.append_nil] at n1
        exact ⟨⟨by omega, by omega, n1, n2, n3⟩, by omega⟩
  . have hk2 : k = 2 := by omega
    subst hk2
    have o1 := h3 (by decide)
    have o2 := h4 (by decide)
    have q1 := of_decide_eq_true (Bool.and_eq_true_iff.1 o1).1
    have q2 := of_decide_eq_true (Bool.and_eq_true_iff.1 o2).1
    have l1 := slen 160 q1 hp.1
    have l2 := slen 161 q2 hp.2
    rw [if_pos (by decide), if_pos (by decide)] at h2
    have hbl : b.length ≤ 4200000 := by rw [h2, List.length_append]; omega
    refine ⟨fun hz => bad (.inr (.inr ?_)), fun hz => ⟨⟨by decide, by decide, by show b.length ≤ _; omega⟩, ?_⟩⟩
    . have hz : b = [] := List.length_eq_zero_iff.1 (by omega)
      rw [hz] at h2
      obtain ⟨e1, e2⟩ := List.append_eq_nil_iff.1 h2.symm
      constructor
      . by_cases hc : p = []
        . exact hc
        . rw [subs_put, if_neg hc] at e1; simp [putB] at e1
      . by_cases hc : x = []
        . exact hc
        . rw [subs_put, if_neg hc] at e2; simp [putB] at e2
    . rintro ⟨d, _⟩ _ e
      simp only at e ⊢
      have hne : ¬ (p = [] ∧ x = []) := by
        rintro ⟨rfl, rfl⟩
        rw [h2] at hz
        exact hz rfl
      rw [TreesD, if_neg (by rw [no_badTr (t := (p, x)) q1 q2 (List.all_eq_true.1 (Bool.and_eq_true_iff.1 o1).2) (List.all_eq_true.1 (Bool.and_eq_true_iff.1 o2).2) hne]; decide), treesB, e, h2, List.flatMap_append]
theorem h8 : c_r15_Trees.ok Tryz.prog GL 8 := conO_ok (H := {}) (mkEnvO_ok (gl := GL) (l := [(44, conSem c_r14_May), (46, conSem c_r15_general), (45, conSem c_r15_Put)]) (q := []) (d := []) _ [1000000] tyOk (by kernel_rfl) ⟨h44.call, h46.call, h45.call, trivial⟩ trivial trivial) (by kernel_rfl) (by kernel_rfl) (Eq.mp e8 k8)
def t13 : Prop :=
  ∀ (x : q374 × q374 × Unit), (Kd.wf q373 x.1 /\ Kd.wf q373 x.2.1 /\ True) -> True -> List.length [SV.dat q244 x.1.1, SV.dat q244 x.1.2] <= q69 /\ List.length [SV.dat q244 x.2.1.1, SV.dat
  q244 x.2.1.2] <= q69 /\ (decide (q423 x) = false -> True) /\ (q372 x) /\ (q372 x) /\ (decide (q423 x) = false -> True) /\ (q372 x) /\ (q372 x) /\ (decide (q423 x) = false -> (decide (q423
  x) == false) = true /\ (decide (q423 x) == false) = true /\ True) /\ (decide (q423 x) = false -> (decide (q423 x) == false) = true) /\ ((bif decide (q423 x) then true else decide ((lnZ
  x.1.2) ≠ (lnZ x.2.1.2))) = true -> false = decide (x.1 = x.2.1)) /\ ((bif decide (q423 x) then true else decide ((lnZ x.1.2) ≠ (lnZ x.2.1.2))) = false -> ∃ (I : Int × Bool × Unit -> Unit ×
  Unit × Unit -> Prop), ∃ (μ : Int × Bool × Unit -> Unit × Unit × Unit -> Nat), (Value.bool false = Value.bool false /\ x.1 = x.1 /\ x.2.1 = x.2.1 /\ x.1.1 = x.1.1 /\ x.1.2 = x.1.2 /\ x.2.1.1
  = x.2.1.1 /\ x.2.1.2 = x.2.1.2 /\ I (q40, false, ()) ((), (), ())) /\ ∀ (y : q9) (z : Unit × Unit × Unit), (q83 y) -> True /\ True /\ True -> I y z -> (decide (y.1 < (lnZ x.1.1)) = true ->
  (q40 <= y.1 /\ y.1 < (lnZ x.1.1)) /\ (q40 <= y.1 /\ y.1 < (lnZ x.2.1.1)) /\ ((q371 x y) = true -> false = decide (x.1 = x.2.1)) /\ ((q371 x y) = false -> Value.bool false = Value.bool false
  /\ x.1 = x.1 /\ x.2.1 = x.2.1 /\ x.1.1 = x.1.1 /\ x.1.2 = x.1.2 /\ x.2.1.1 = x.2.1.1 /\ x.2.1.2 = x.2.1.2 /\ I (wrZ (q85 y), y.2.1, ()) ((), (), ()) /\ μ (wrZ (q85 y), y.2.1, ()) ((), (),
  ()) < μ y z)) /\ (decide (y.1 < (lnZ x.1.1)) = false -> ∃ (I : Int × Bool × Unit -> Unit × Unit × Unit -> Prop), ∃ (μ : Int × Bool × Unit -> Unit × Unit × Unit -> Nat), (Value.bool false =
  Value.bool false /\ y.1 = y.1 /\ Value.bool false = Value.bool false /\ x.1 = x.1 /\ x.2.1 = x.2.1 /\ x.1.1 = x.1.1 /\ x.1.2 = x.1.2 /\ x.2.1.1 = x.2.1.1 /\ x.2.1.2 = x.2.1.2 /\ I (q40,
  y.2.1, ()) ((), (), ())) /\ ∀ (y_1 : q9) (z : Unit × Unit × Unit), (q83 y_1) -> True /\ True /\ True -> I y_1 z -> (decide (y_1.1 < (lnZ x.1.2)) = true -> (q40 <= y_1.1 /\ y_1.1 < (lnZ
  x.1.2)) /\ (q40 <= y_1.1 /\ y_1.1 < (lnZ x.2.1.2)) /\ ((q370 x y_1) = true -> false = decide (x.1 = x.2.1)) /\ ((q370 x y_1) = false -> Value.bool false = Value.bool false /\ y.1 = y.1 /\
  Value.bool false = Value.bool false /\ x.1 = x.1 /\ x.2.1 = x.2.1 /\ x.1.1 = x.1.1 /\ x.1.2 = x.1.2 /\ x.2.1.1 = x.2.1.1 /\ x.2.1.2 = x.2.1.2 /\ I (wrZ (q85 y_1), y_1.2.1, ()) ((), (), ())
  /\ μ (wrZ (q85 y_1), y_1.2.1, ()) ((), (), ()) < μ y_1 z)) /\ (decide (y_1.1 < (lnZ x.1.2)) = false -> true = decide (x.1 = x.2.1))))
theorem e13 : t13 = Con.vc c_r15_SameTrees GL (mkEnvO ty [] [] [] [0, 1, 2, 3, 4, 5, 6, 22, 27, 40, 45, 58] [1000000]) {} Tryz.f13.ntmps Tryz.f13.results.toList (bodyOf Tryz.f13) := by kernel_rfl
theorem k13 : t13 := by
  unfold t13
  delta q374 q373 q244 q69 q423 q372 lnZ q40 q9 q83 q371 wrZ q85 q370 q440 q415 wiZ wbZ q384 q393 q417 q500 q494
  rintro ⟨⟨p, x⟩, ⟨q, v⟩, _⟩ hx hp
  have hpl : p.length ≤ 9223372036854775807 := hx.1.1.1
  have hxl : x.length ≤ 9223372036854775807 := hx.1.2.1
  try dsimp +instances only [dft_int, dft_sl, dft_str]
  simp only [true_and, and_true, eq_self_iff_true, implies_true, reduceCtorEq, false_implies, true_implies, decide_eq_true_eq, decide_eq_false_iff_not, beq_self_eq_true, Bool.not_eq_true', ne_eq, Decidable.not_not, List.nil_append, List.length_singleton, List.length_cons, List.length_nil, Nat.zero_add, Nat.add_zero, Nat.mul_one, and_self, beq_iff_eq, Bool.not_true, Bool.not_false, Bool.not_eq_false', Bool.cond_false_right, Bool.and_eq_true, imp_self, Bool.not_eq_true, Bool.cond_true_left, Bool.or_eq_true]
  have hdG : ((Kd.int IntKind.i64).pair Kd.str).dft = gdft := rfl
  try simp only [hdG]
  have dec : ∀ {a c : List GenT} {i : Nat}, i < a.length → (decide ((a.getD i gdft).1 = (c.getD i gdft).1) && decide ((a.getD i gdft).2 = (c.getD i gdft).2)) = false → a ≠ c := fun {a c i} hi h e => by
    subst e
    simp at h
  have step : ∀ {a c : List GenT} {i : Nat}, i < a.length → i < c.length → (a.getD i gdft).1 = (c.getD i gdft).1 → (a.getD i gdft).2 = (c.getD i gdft).2 → a.take i = c.take i → a.take (i + 1) = c.take (i + 1) := fun {a c i} h1 h2 e1 e2 h => by
    rw [take_snocA gdft a i h1, take_snocA gdft c i h2, h, Prod.ext e1 e2]
  refine ⟨by decide, by decide, fun h => ?_, fun h => ?_⟩
  . symm
    refine decide_eq_false fun e => ?_
    obtain ⟨e1, e2⟩ := Prod.mk.inj e
    rcases h with h | h
    . exact h (by rw [e1])
    . exact h (by rw [e2])
  . obtain ⟨q1, q2⟩ := Bool.or_eq_false_iff.1 h
    have q1 : (p.length : Int) = q.length := Classical.not_not.1 (of_decide_eq_false q1)
    have q2 : (x.length : Int) = v.length := Classical.not_not.1 (of_decide_eq_false q2)
    refine ⟨fun y _ => 0 ≤ y.1 ∧ y.1 ≤ p.length ∧ p.take y.1.toNat = q.take y.1.toNat, fun y _ => ((p.length : Int) - y.1).toNat, ⟨Int.le_refl 0, by simp only; omega, by simp⟩, ?_⟩
    rintro ⟨i, r, _⟩ _ _ ⟨h0, h1, h2⟩
    simp only at h0 h1 h2 ⊢
    refine ⟨fun hi => ⟨⟨h0, hi⟩, ⟨h0, by omega⟩, fun h => ?_, fun h => ?_⟩, fun hi => ?_⟩
    . exact (decide_eq_false fun e => dec (i := i.toNat) (by omega) h (Prod.mk.inj e).1).symm
    . rw [wrapM (i + 1) (by omega) (by omega)]
      exact ⟨⟨by omega, by omega, by rw [show (i + 1).toNat = i.toNat + 1 by omega]; exact step (by omega) (by omega) h.1 h.2 h2⟩, by omega⟩
    . rw [take_all (by omega), take_all (by omega)] at h2
      refine ⟨fun y _ => 0 ≤ y.1 ∧ y.1 ≤ x.length ∧ x.take y.1.toNat = v.take y.1.toNat, fun y _ => ((x.length : Int) - y.1).toNat, ⟨Int.le_refl 0, by simp only; omega, by simp⟩, ?_⟩
      rintro ⟨j, r2, _⟩ _ _ ⟨g0, g1, g2⟩
      simp only at g0 g1 g2 ⊢
      refine ⟨fun hj => ⟨⟨g0, hj⟩, ⟨g0, by omega⟩, fun h => ?_, fun h => ?_⟩, fun hj => ?_⟩
      . exact (decide_eq_false fun e => dec (i := j.toNat) (by omega) h (Prod.mk.inj e).2).symm
      . rw [wrapM (j + 1) (by omega) (by omega)]
        exact ⟨⟨by omega, by omega, by rw [show (j + 1).toNat = j.toNat + 1 by omega]; exact step (by omega) (by omega) h.1 h.2 g2⟩, by omega⟩
      . rw [take_all (by omega), take_all (by omega)] at g2
        exact (decide_eq_true (by rw [h2, g2])).symm
theorem h13 : c_r15_SameTrees.ok Tryz.prog GL 13 := conO_ok (H := {}) (mkEnvO_ok (gl := GL) (l := []) (q := []) (d := []) _ [1000000] tyOk (by kernel_rfl) trivial trivial trivial) (by kernel_rfl) (by kernel_rfl) (Eq.mp e13 k13)
def t12 : Prop :=
  ∀ (x : q5), (q160 x) -> lenB x.1 <= q349 -> q74 <= q69 /\ q74 <= q69 /\ lenB x.1 <= q349 /\ (∀ (y : q14), (Kd.wf q192 y.1 /\ True) -> y.1 = insL x.1 -> ∃ (I : Int × Unit -> Unit × Unit ×
  List q194 × List q194 × List q194 × List q194 × List q194 × Unit -> Prop), ∃ (μ : Int × Unit -> Unit × Unit × List q194 × List q194 × List q194 × List q194 × List q194 × Unit -> Nat), (q40
  = q40 /\ x.1 = x.1 /\ I (q40, ()) ((), (), y.1, [], [], [], [], ())) /\ ∀ (y : q1) (z : Unit × Unit × List q194 × List q194 × List q194 × List q194 × List q194 × Unit), (q36 y) -> True /\
  True /\ (Kd.wf q192 z.2.2.1 /\ Kd.wf q244 z.2.2.2.1 /\ Kd.wf q244 z.2.2.2.2.1 /\ Kd.wf q244 z.2.2.2.2.2.1 /\ Kd.wf q244 z.2.2.2.2.2.2.1 /\ True) -> I y z -> (decide (y.1 < (lnZ z.2.2.1)) =
  true -> (q40 <= y.1 /\ y.1 < (lnZ z.2.2.1)) /\ lenB (q375 z y).2 <= q84 /\ (∀ (y_1 : q21), (q207 y_1) -> y_1.1 = List.map (fun (x : q20) => x.2) (rowD (q375 z y).2).1 /\ y_1.2.1 = List.map
  (fun (x : q20) => x.1) (rowD (q375 z y).2).1 /\ (y_1.2.2.1, y_1.2.2.2.1) = (rowD (q375 z y).2).2 -> ∃ (I_1 : Int × Unit -> Unit × Unit × List q194 × List q194 × List q194 × List q194 × List
  q194 × List q194 × Unit -> Prop), ∃ (μ_1 : Int × Unit -> Unit × Unit × List q194 × List q194 × List q194 × List q194 × List q194 × List q194 × Unit -> Nat), (Value.bool true = Value.bool
  true /\ y.1 = y.1 /\ q40 = q40 /\ x.1 = x.1 /\ I_1 (q40, ()) ((), (), z.2.2.1, z.2.2.2.1, z.2.2.2.2.1, z.2.2.2.2.2.1, z.2.2.2.2.2.2.1, y_1.1, ())) /\ ∀ (y_2 : q1) (z_1 : Unit × Unit × List
  q194 × List q194 × List q194 × List q194 × List q194 × List q194 × Unit), (q36 y_2) -> True /\ True /\ (Kd.wf q192 z_1.2.2.1 /\ Kd.wf q244 z_1.2.2.2.1 /\ Kd.wf q244 z_1.2.2.2.2.1 /\ Kd.wf
  q244 z_1.2.2.2.2.2.1 /\ Kd.wf q244 z_1.2.2.2.2.2.2.1 /\ Kd.wf q192 z_1.2.2.2.2.2.2.2.1 /\ True) -> I_1 y_2 z_1 -> (decide (y_2.1 < (lnZ z_1.2.2.2.2.2.2.2.1)) = true -> (q40 <= y_2.1 /\
  y_2.1 < (lnZ z_1.2.2.2.2.2.2.2.1)) /\ lenB (List.getD z_1.2.2.2.2.2.2.2.1 (q377 y_2) q243).2 <= q84 /\ (∀ (y_3 : q19), (q188 y_3) -> (y_3.1, y_3.2.1, y_3.2.2.1) = takeD (List.getD
  z_1.2.2.2.2.2.2.2.1 (q377 y_2) q243).2 -> q74 <= q69 /\ (32 : Int) ≠ q40 /\ q74 <= q69 /\ (q40 <= y.1 /\ y.1 < (lnZ z_1.2.2.1)) /\ (decide ((List.getD z_1.2.2.1 (q377 y) q243).1 = (160 :
  Int)) = true -> q71 < q74 /\ (List.length z_1.2.2.2.2.2.1 + List.length [(Int.tmod y_3.1.1 (32 : Int), y_3.1.2)]) * q245 <= q159 /\ List.length z_1.2.2.2.2.2.1 + List.length [(Int.tmod
  y_3.1.1 (32 : Int), y_3.1.2)] <= q158 /\ Value.bool true = Value.bool true /\ y.1 = y.1 /\ q40 = q40 /\ x.1 = x.1 /\ I_1 (wrZ (q217 y_2), ()) ((), (), z_1.2.2.1, z_1.2.2.2.1, z_1.2.2.2.2.1,
  z_1.2.2.2.2.2.1 ++ [(Int.tmod y_3.1.1 (32 : Int), y_3.1.2)], z_1.2.2.2.2.2.2.1, z_1.2.2.2.2.2.2.2.1, ()) /\ μ_1 (wrZ (q217 y_2), ()) ((), (), z_1.2.2.1, z_1.2.2.2.1, z_1.2.2.2.2.1,
  z_1.2.2.2.2.2.1 ++ [(Int.tmod y_3.1.1 (32 : Int), y_3.1.2)], z_1.2.2.2.2.2.2.1, z_1.2.2.2.2.2.2.2.1, ()) < μ_1 y_2 z_1) /\ (decide ((List.getD z_1.2.2.1 (q377 y) q243).1 = (160 : Int)) =
  false -> q71 < q74 /\ (List.length z_1.2.2.2.2.2.2.1 + List.length [(Int.tmod y_3.1.1 (32 : Int), y_3.1.2)]) * q245 <= q159 /\ List.length z_1.2.2.2.2.2.2.1 + List.length [(Int.tmod y_3.1.1
  (32 : Int), y_3.1.2)] <= q158 /\ Value.bool true = Value.bool true /\ y.1 = y.1 /\ q40 = q40 /\ x.1 = x.1 /\ I_1 (wrZ (q217 y_2), ()) ((), (), z_1.2.2.1, z_1.2.2.2.1, z_1.2.2.2.2.1,
  z_1.2.2.2.2.2.1, z_1.2.2.2.2.2.2.1 ++ [(Int.tmod y_3.1.1 (32 : Int), y_3.1.2)], z_1.2.2.2.2.2.2.2.1, ()) /\ μ_1 (wrZ (q217 y_2), ()) ((), (), z_1.2.2.1, z_1.2.2.2.1, z_1.2.2.2.2.1,
  z_1.2.2.2.2.2.1, z_1.2.2.2.2.2.2.1 ++ [(Int.tmod y_3.1.1 (32 : Int), y_3.1.2)], z_1.2.2.2.2.2.2.2.1, ()) < μ_1 y_2 z_1)) /\ True) /\ (decide (y_2.1 < (lnZ z_1.2.2.2.2.2.2.2.1)) = false ->
  q40 = q40 /\ x.1 = x.1 /\ I (wrZ (q217 y), ()) ((), (), z_1.2.2.1, z_1.2.2.2.1, z_1.2.2.2.2.1, z_1.2.2.2.2.2.1, z_1.2.2.2.2.2.2.1, ()) /\ μ (wrZ (q217 y), ()) ((), (), z_1.2.2.1,
  z_1.2.2.2.1, z_1.2.2.2.2.1, z_1.2.2.2.2.2.1, z_1.2.2.2.2.2.2.1, ()) < μ y z)) /\ True) /\ (decide (y.1 < (lnZ z.2.2.1)) = false -> (lenG z.2.2.2.2.2.1 <= q349 /\ lenG z.2.2.2.2.2.2.1 <=
  q349) /\ (∀ (y : q0), (q222 y) -> (y.1, y.2.1) = TreesD (z.2.2.2.2.2.1, z.2.2.2.2.2.2.1) -> (q250 y) /\ (q247 y) /\ (q250 y) /\ (q247 y) /\ (q246 y) /\ (q248 y) /\ ((q249 y x) = true ->
  (([], []), (150 : Int)) = ToTreesD x.1) /\ ((q249 y x) = false -> ((z.2.2.2.2.2.1, z.2.2.2.2.2.2.1), q40) = ToTreesD x.1)) /\ True)) /\ True
theorem e12 : t12 = Con.vc c_r15_ToTrees GL (mkEnvO ty [(51, conSem c_r15_Inside), (52, conSem c_r01_Row), (53, conSem c_r01_Take), (8, conSem c_r15_Trees)] [] [] [0, 2, 3, 4, 5, 6, 7, 11, 12, 15, 16, 17, 23, 40, 65, 91] [1000000]) {asDat := [5000000]} Tryz.f12.ntmps Tryz.f12.results.toList (bodyOf Tryz.f12) := by kernel_rfl
theorem k12 : t12 := by
  unfold t12
  delta q5 q160 q349 q74 q69 q14 q192 q194 q40 q1 q36 q244 lnZ q375 q84 q21 q207 q20 q377 q243 q19 q188 q71 q245 q159 q158 wrZ q217 q0 q222 q250 q247 q246 q248 q249 wyZ q403 wiZ q415 q412 q450 q494 q417 q379 q512
  rintro ⟨b, _⟩ hx hp
  have hp : b.length ≤ 2000000 := hp
  have hb : Bys b := sl_bys hx.1
  try dsimp +instances only [dft_int, dft_sl, dft_str]
  simp only [true_and, and_true, eq_self_iff_true, implies_true, reduceCtorEq, false_implies, true_implies, decide_eq_true_eq, decide_eq_false_iff_not, beq_self_eq_true, Bool.not_eq_true', ne_eq, Decidable.not_not, List.nil_append, List.length_singleton, List.length_cons, List.length_nil, Nat.zero_add, Nat.add_zero, Nat.mul_one, and_self, beq_iff_eq, Bool.not_true, Bool.not_false, Bool.not_eq_false', Bool.cond_false_right, Bool.and_eq_true, imp_self, Bool.not_eq_true, Bool.cond_true_left, Bool.or_eq_true]
  have hdE : ((Kd.int IntKind.i64).pair (Kd.int IntKind.u8).sl).dft = edft := rfl
  try simp only [hdE]
  refine ⟨by decide, by decide, hp, ?_⟩
  rintro ⟨L, _⟩ _ e
  simp only at e ⊢
  have hsum := insL_sum hb
  rw [← e] at hsum
  have hLs : lenEs L ≤ 2000000 := Nat.le_trans hsum.1 hp
  have hLl : L.length ≤ 2000000 := by
    have h1 := (rowR_len (takeD b).1.2 (takeD b).1.2.length 0).1
    have h2 := takeD_len b
    rw [e, insL, List.length_map]
    unfold rowD
    omega
  have hBy : ∀ x ∈ L, Bys x.2 := fun x hx => (hsum.2 x hx).2
  have hD := trees_ref hb (by omega)
  rw [← e] at hD
  refine ⟨fun y z => 0 ≤ y.1 ∧ y.1 ≤ L.length ∧ z.2.2.1 = L ∧ z.2.2.2.2.2.1 = guessP (L.take y.1.toNat) ∧ z.2.2.2.2.2.2.1 = guessX (L.take y.1.toNat), fun y _ => ((L.length : Int) - y.1).toNat, ⟨Int.le_refl 0, by simp only; omega, rfl, rfl, rfl⟩, ?_⟩
  rintro ⟨i, _⟩ ⟨z1, z2, row, z4, z5, P, X, _⟩ _ _ ⟨h0, h1, h2, h3, h4⟩
  simp only at h0 h1 h2 h3 h4 ⊢
  simp only [h2]
  have hPl : P.length ≤ 2000000 := by rw [h3]; exact Nat.le_trans (guessP_len _) (Nat.le_trans (lenEs_take L _) hLs)
  have hXl : X.length ≤ 2000000 := by rw [h4]; exact Nat.le_trans (guessX_len _) (Nat.le_trans (lenEs_take L _) hLs)
  refine ⟨fun hi => ?_, fun hi => ?_⟩
  . have hmem := gd_mem L edft i.toNat (by omega)
    have hml : (L.getD i.toNat edft).2.length ≤ 2000000 := Nat.le_trans (el_mem hmem) hLs
    have hme := hBy _ hmem
    refine ⟨⟨h0, hi⟩, by show (L.getD i.toNat edft).2.length ≤ _; omega, ?_⟩
    rintro ⟨R, q1, q2, q3, _⟩ _ ⟨e1, _, _⟩
    simp only at e1 ⊢
    have e1 : R = rowL (L.getD i.toNat edft) := e1
    have hRl : R.length ≤ 2000000 := by rw [e1]; exact Nat.le_trans (rowL_len _) hml
    have hRs := rowD_sum hme
    have hRB : ∀ x ∈ R, Bys x.2 := fun x hx => (hRs.2 x (by rw [e1] at hx; exact hx)).2
    have hRx : ∀ x ∈ R, x.2.length ≤ 2000000 := fun x hx => by
      have h7 : lenEs R ≤ (L.getD i.toNat edft).2.length := by rw [e1]; exact hRs.1
      exact Nat.le_trans (el_mem hx) (Nat.le_trans h7 hml)
    refine ⟨fun y z => 0 ≤ y.1 ∧ y.1 ≤ R.length ∧ z.2.2.1 = L ∧ z.2.2.2.2.2.2.2.1 = R ∧ z.2.2.2.2.2.1 = P ++ (if (L.getD i.toNat edft).1 = 160 then (R.take y.1.toNat).map gE else []) ∧ z.2.2.2.2.2.2.1 = X ++ (if (L.getD i.toNat edft).1 = 160 then [] else (R.take y.1.toNat).map gE), fun y _ => ((R.length : Int) - y.1).toNat, ⟨Int.le_refl 0, by simp only; omega, rfl, rfl, by simp, by simp⟩, ?_⟩
    rintro ⟨j, _⟩ ⟨y1, y2, row2, y4, y5, P2, X2, R2, _⟩ _ _ ⟨g0, g1, g2, g3, g4, g5⟩
    simp only at g0 g1 g2 g3 g4 g5 ⊢
    simp only [g2, g3]
    have hP2 : P2.length ≤ 4000000 := by
      rw [g4, List.length_append]
      split
      . rw [List.length_map, List.length_take]; omega
      . simp; omega
    have hX2 : X2.length ≤ 4000000 := by
      rw [g5, List.length_append]
      split
      . simp; omega
      . rw [List.length_map, List.length_take]; omega
    refine ⟨fun hj => ?_, fun hj => ?_⟩
    . have hm2 := gd_mem R edft j.toNat (by omega)
      have hxl := hRx _ hm2
      refine ⟨⟨g0, hj⟩, by show (R.getD j.toNat edft).2.length ≤ _; omega, ?_⟩
      rintro ⟨⟨u, c⟩, n, f, _⟩ _ e3
      simp only at e3 ⊢
      have e3' : ((u, c), n, f) = takeD (R.getD j.toNat edft).2 := e3
      have hu : 0 ≤ u := by
        have := take_tag (hRB _ hm2)
        rw [← e3'] at this
        exact this
      have hg : gE (R.getD j.toNat edft) = (u % 32, c) := by rw [gE, ← e3']; rfl
      rw [Int.tmod_eq_emod_of_nonneg hu, wrapM (j + 1) (by omega) (by omega)]
      have hn : (j + 1).toNat = j.toNat + 1 := by omega
      have hmt := map_take gE R edft j.toNat (by omega)
      refine ⟨by decide, by decide, by decide, ⟨h0, hi⟩, fun h160 => ?_, fun h160 => ?_⟩
      . rw [if_pos h160] at g4 g5
        refine ⟨by decide, by omega, by omega, ⟨by omega, by omega, trivial, trivial, ?_, ?_⟩, by omega⟩
        . rw [if_pos h160, hn, hmt, g4, hg, List.append_assoc]
        . rw [if_pos h160, g5]
      . rw [if_neg h160] at g4 g5
        refine ⟨by decide, by omega, by omega, ⟨by omega, by omega, trivial, trivial, ?_, ?_⟩, by omega⟩
        . rw [if_neg h160, g4]
        . rw [if_neg h160, hn, hmt, g5, hg, List.append_assoc]
    . rw [take_all (by omega)] at g4 g5
      rw [wrapM (i + 1) (by omega) (by omega)]
      have hn : (i + 1).toNat = i.toNat + 1 := by omega
      refine ⟨⟨by omega, by omega, trivial, ?_, ?_⟩, by omega⟩
      . rw [hn, guessP_step L i.toNat (by omega), g4, h3, gT_map, e1]
      . rw [hn, guessX_step L i.toNat (by omega), g5, h4, gT_map, e1]
  . rw [take_all (by omega)] at h3 h4
    refine ⟨⟨by rw [h3]; exact Nat.le_trans (guessP_sum L hBy) hLs, by rw [h4]; exact Nat.le_trans (guessX_sum L hBy) hLs⟩, ?_⟩
    rw [← h3, ← h4] at hD
    rintro ⟨c, f, _⟩ _ e2
    simp only at e2 ⊢
    rw [← e2] at hD
    refine ⟨fun h => ?_, fun h => ?_⟩
    . rw [hD, if_neg]
      intro hc
      obtain ⟨rfl, rfl⟩ := Prod.mk.inj hc
      rcases h with h | h
      . exact h rfl
      . exact h rfl
    . obtain ⟨h4, h5⟩ := Bool.or_eq_false_iff.1 h
      have h4 : f = 0 := Classical.not_not.1 (of_decide_eq_false h4)
      have h5 : c = b := Classical.not_not.1 (of_decide_eq_false h5)
      rw [hD, if_pos (by rw [h4, h5])]
theorem h12 : c_r15_ToTrees.ok Tryz.prog GL 12 := conO_ok (H := {asDat := [5000000]}) (mkEnvO_ok (gl := GL) (l := [(51, conSem c_r15_Inside), (52, conSem c_r01_Row), (53, conSem c_r01_Take), (8, conSem c_r15_Trees)]) (q := []) (d := []) _ [1000000] tyOk (by kernel_rfl) ⟨h51.call, h52.call, h53.call, h8.call, trivial⟩ trivial trivial) (by kernel_rfl) (by kernel_rfl) (Eq.mp e12 k12)
end Go.Proofs.YtiofbnlbfmbodaaGreatDoor
end
