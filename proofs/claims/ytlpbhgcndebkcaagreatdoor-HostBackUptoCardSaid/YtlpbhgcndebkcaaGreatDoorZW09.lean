/- Texts of a verified walk, led together: HostgA, HostgW, HostrA, HostrW, HostpA, HostpW, Law13A, Law13W, Law13mA, Law13mW, Law13gA, Law13gW, Glok12A, Glok12W. -/
import Derived.Test.YtlpbhgcndebkcaaGreatDoorZW08
import Derived.Test.YtlpbhgcndebkcaaGreatDoorZV14
import Derived.Test.YtlpbhgcndebkcaaGreatDoorRows
set_option linter.unusedVariables false
set_option linter.unusedSimpArgs false
section
namespace Go.Proofs.YtlpbhgcndebkcaaGreatDoor
open Go Go.Vc Go.Pl Go.Proofs
abbrev GT : Kd := .pair (.int .i64) .str
def kindsT : List (Int × Nat × List Int) := [(1, 25 + 1, [101, 109, 97, 105, 108, 58]), (2, 38 + 1, [100, 110, 115, 58]), (4, 39 + 1, [110, 97, 109, 101, 58]), (7, 26 + 1, [105, 112, 58])]
def c_host_kinds : Con := { args := [], res := [.dat (.mp (.pair .fn .str))], pre := fun _ => True, post := fun _ y => y.1 = kindsT }
def c_host_kinds_1 : Con := { args := [.dat .str], res := [.dat .bool], pre := fun x => x.1.length ≤ 1000000000, post := fun x y => y.1 = (dnsD x.1 || wildD x.1) }
def c_host_named : Con := { args := [.dat .str], res := [.dat .bool], pre := fun x => x.1.length ≤ 100000000, post := fun x y => y.1 = namedD x.1 }
def c_host_May : Con := { args := [.dat GT], res := [.dat .bool], pre := fun x => x.1.2.length ≤ 100000000, post := fun x y => y.1 = mayG x.1.1 x.1.2 }
def c_host_Show : Con := { args := [.dat GT], res := [.dat .str, .dat I64], pre := fun x => x.1.2.length ≤ 10000000, post := fun x y => (y.1, y.2.1) = ShowG x.1.1 x.1.2 }
def c_host_bytes : Con := { args := [.dat .str], res := [.dat .str], pre := fun x => x.1.length ≤ 100000000, post := fun x y => y.1 = unhexD x.1 }
end Go.Proofs.YtlpbhgcndebkcaaGreatDoor
end
section
namespace Go.Proofs.YtlpbhgcndebkcaaGreatDoor
open Go Go.Vc Go.Pl Go.Proofs
set_option linter.unusedVariables false
set_option linter.unusedSimpArgs false
set_option maxRecDepth 20000
abbrev q27 := (List (Int × List Int) × Int × Unit)
abbrev q28 := (List (Int × Nat × List Int) × Unit)
abbrev q29 := (Int × List Int × Unit -> Unit × Unit -> Prop)
abbrev q30 := (Int × List Int × Unit -> Unit × Unit -> Nat)
abbrev q365 (p0 : q27) := (Kd.wf (Kd.sl q484) p0.1 /\ wiZ p0.2.1 /\ True)
abbrev q471 := (Kd.pair Kd.fn Kd.str)
abbrev q579 (p0 : q15) (p1 : q28) := (lookB p0.1.1 p1.1 = true -> (lookB p0.1.1 p1.1 == true) = true /\ True)
abbrev q581 (p0 : q15) (p1 : q28) := (lookD (Kd.dft (Kd.pair Kd.fn Kd.str)) p0.1.1 p1.1)
abbrev q578 (p0 : q15) (p1 : q28) := (lookB p0.1.1 p1.1 = true -> (lookB p0.1.1 p1.1 == true) = true /\ (lookB p0.1.1 p1.1 == true) = true /\ ((q581 p0 p1).1 = (26 : Nat) \/ (q581 p0 p1).1
  = (39 : Nat) \/ (q581 p0 p1).1 = (40 : Nat) \/ (q581 p0 p1).1 = (27 : Nat) \/ False) /\ ((q581 p0 p1).1 = (26 : Nat) -> List.length p0.1.2 <= (1000000000 : Nat) /\ (∀ (y : q4), (wbZ y.1 /\
  True) -> y.1 = emailD p0.1.2 -> y.1 = mayG p0.1.1 p0.1.2) /\ True) /\ ((q581 p0 p1).1 = (39 : Nat) -> List.length p0.1.2 <= (1000000000 : Nat) /\ (∀ (y : q4), (wbZ y.1 /\ True) -> y.1 =
  (dnsD p0.1.2 || wildD p0.1.2) -> y.1 = mayG p0.1.1 p0.1.2) /\ True) /\ ((q581 p0 p1).1 = (40 : Nat) -> List.length p0.1.2 <= (100000000 : Nat) /\ (∀ (y : q4), (wbZ y.1 /\ True) -> y.1 =
  namedD p0.1.2 -> y.1 = mayG p0.1.1 p0.1.2) /\ True) /\ ((q581 p0 p1).1 = (27 : Nat) -> True /\ (∀ (y : q4), (wbZ y.1 /\ True) -> y.1 = ipD p0.1.2 -> y.1 = mayG p0.1.1 p0.1.2) /\ True) /\
  True)
abbrev q570 (p0 : q15) (p1 : q28) := (((lookB p0.1.1 p1.1 = true -> True) /\ (q579 p0 p1) /\ (lookB p0.1.1 p1.1 = true -> True) /\ (q579 p0 p1) /\ (q578 p0 p1) /\ (lookB p0.1.1 p1.1 = !true
  -> false = mayG p0.1.1 p0.1.2)) /\ True)
abbrev q545 (p0 : q15) (p1 : q28) := ((q570 p0 p1) /\ (q570 p0 p1) /\ True)
abbrev q546 (p0 : q15) (p1 : q28) := ((q570 p0 p1) /\ True)
abbrev q514 (p0 : q15) (p1 : q28) := ((q545 p0 p1) /\ (q546 p0 p1) /\ True)
abbrev q366 (p0 : q15) := (True /\ (∀ (y : q28), (Kd.wf (Kd.mp q471) y.1 /\ True) -> y.1 = kindsT -> (q514 p0 y) /\ True) /\ True)
abbrev q555 (p0 : q15) (p1 : q28) := ((lookB p0.1.1 p1.1 = true -> True) /\ (q579 p0 p1) /\ (lookB p0.1.1 p1.1 = true -> True) /\ (q579 p0 p1) /\ (q578 p0 p1) /\ (lookB p0.1.1 p1.1 = !true
  -> false = mayG p0.1.1 p0.1.2))
abbrev q515 (p0 : q15) (p1 : q28) := (((2 : Nat) <= (65536 : Nat) /\ (q555 p0 p1) /\ True) /\ True)
abbrev q516 (p0 : q15) (p1 : q28) := ((q555 p0 p1) /\ True)
abbrev q367 (p0 : q15) (p1 : q28) := ((q515 p0 p1) /\ ((2 : Nat) <= (65536 : Nat) /\ (q516 p0 p1) /\ (q516 p0 p1) /\ True) /\ True)
abbrev q368 (p0 : q15) (p1 : q28) := ((2 : Nat) <= (65536 : Nat) /\ (q514 p0 p1) /\ True)
abbrev q369 (p0 : q15) (p1 : q28) := ((2 : Nat) <= (65536 : Nat) /\ (q545 p0 p1) /\ (q546 p0 p1) /\ True)
abbrev q370 (p0 : q15) (p1 : q28) := ((q514 p0 p1) /\ True)
abbrev q371 (p0 : q15) (p1 : q28) := ((q515 p0 p1) /\ ((2 : Nat) <= (65536 : Nat) /\ (q516 p0 p1) /\ True) /\ True)
abbrev q372 (p0 : q28) := (Kd.wf (Kd.mp q471) p0.1 /\ True)
abbrev q575 (p0 : q15) (p1 : q14) := (List.getD p0.1.2 (Int.toNat p1.1) (0 : Int))
abbrev q567 := (bs { data := #[(48 : UInt8), (49 : UInt8), (50 : UInt8), (51 : UInt8), (52 : UInt8), (53 : UInt8), (54 : UInt8), (55 : UInt8), (56 : UInt8), (57 : UInt8), (97 : UInt8), (98
  : UInt8), (99 : UInt8), (100 : UInt8), (101 : UInt8), (102 : UInt8)] })
abbrev q557 (p0 : q15) (p1 : q14) := (Utf8.encode (List.getD q567 (Int.toNat (Int.fdiv (q575 p0 p1) ((2 : Int) ^ (4 : Nat)))) q574))
abbrev q519 (p0 : q15) (p1 : q14) := (bs (q557 p0 p1))
abbrev q568 (p0 : q15) (p1 : q14) := (BitVec.toNat (BitVec.ofInt (8 : Nat) (q575 p0 p1) &&& BitVec.ofInt (8 : Nat) (15 : Int)))
abbrev q520 (p0 : q15) (p1 : q14) := (↑(q568 p0 p1) : Int)
abbrev q556 (p0 : q15) (p1 : q14) := (Utf8.encode (List.getD q567 (Int.toNat (IntKind.wrap IntKind.u8 (↑(q568 p0 p1) : Int))) q574))
abbrev q518 (p0 : q15) (p1 : q14) := (bs (q556 p0 p1))
abbrev q517 (p0 : q15) (p1 : q14) := (bs (q557 p0 p1) ++ bs (q556 p0 p1))
abbrev q373 (p0 : q14) (p1 : q15) (p2 : q29) (p3 : q30) (p4 : Unit × Unit) := (decide (p0.1 < (lnZ p1.1.2)) = true -> (q421 <= p0.1 /\ p0.1 < (lnZ p1.1.2)) /\ q421 <= (4 : Int) /\ (q421 <=
  Int.fdiv (q575 p1 p0) q413 /\ Int.fdiv (q575 p1 p0) q413 < q523) /\ List.length (q519 p1 p0) <= (4 : Nat) /\ (q421 <= p0.1 /\ p0.1 < (lnZ p1.1.2)) /\ (q421 <= IntKind.wrap IntKind.u8 (q520
  p1 p0) /\ IntKind.wrap IntKind.u8 (q520 p1 p0) < q523) /\ List.length (q518 p1 p0) <= (4 : Nat) /\ List.length (q519 p1 p0) + List.length (q518 p1 p0) <= q491 /\ List.length p0.2.1 +
  List.length (q517 p1 p0) <= q491 /\ (lnZ p1.1.2) = (lnZ p1.1.2) /\ Value.bool true = Value.bool true /\ Value.bool false = Value.bool false /\ p1.1.1 = p1.1.1 /\ Value.bool false =
  Value.bool false /\ q421 = q421 /\ bs { data := #[] } = bs { data := #[] } /\ p1.1 = p1.1 /\ p1.1.1 = p1.1.1 /\ p1.1.2 = p1.1.2 /\ p2 (wrZ (p0.1 + (1 : Int)), p0.2.1 ++ (q517 p1 p0), ())
  ((), ()) /\ p3 (wrZ (p0.1 + (1 : Int)), p0.2.1 ++ (q517 p1 p0), ()) ((), ()) < p3 p0 p4)
abbrev q521 (p0 : q15) (p1 : q28) := (lookD (Kd.dft (Kd.pair Kd.fn Kd.str)) p0.1.1 p1.1)
abbrev q374 (p0 : q15) (p1 : q28) := (decide (p0.1.1 = (4 : Int)) = true -> lenB p0.1.2 <= (100000000 : Nat) /\ (∀ (y_1 : q27), (Kd.wf (Kd.sl q484) y_1.1 /\ wiZ y_1.2.1 /\ True) -> decQ
  p0.1.2 y_1.1 y_1.2.1 = true -> List.length y_1.1 <= (1000000000 : Nat) /\ (∀ (y_2 : q0), (wsZ y_2.1 /\ wiZ y_2.2.1 /\ True) -> (y_2.1, y_2.2.1) = TextN y_1.1 -> List.length (q521 p0 p1).2 +
  List.length y_2.1 <= q491 /\ ((q521 p0 p1).2 ++ y_2.1, q421) = ShowG p0.1.1 p0.1.2) /\ True) /\ True)
abbrev q375 (p0 : q15) (p1 : q29) (p2 : q28) := ((lnZ p0.1.2) = (lnZ p0.1.2) /\ Value.bool true = Value.bool true /\ Value.bool false = Value.bool false /\ p0.1.1 = p0.1.1 /\ Value.bool
  false = Value.bool false /\ q421 = q421 /\ bs { data := #[] } = bs { data := #[] } /\ p0.1 = p0.1 /\ p0.1.1 = p0.1.1 /\ p0.1.2 = p0.1.2 /\ p1 (q421, (q521 p0 p2).2, ()) ((), ()))
abbrev q376 (p0 : q15) (p1 : q28) := (decide (p0.1.1 = (7 : Int)) = false -> List.length (q521 p0 p1).2 + List.length p0.1.2 <= q491 /\ ((q521 p0 p1).2 ++ p0.1.2, q421) = ShowG p0.1.1
  p0.1.2)
abbrev q377 (p0 : q14) (p1 : q15) := (decide (p0.1 < (lnZ p1.1.2)) = false -> (p0.2.1, q421) = ShowG p1.1.1 p1.1.2)
abbrev q563 := (101 : UInt8)
abbrev q465 := (bs { data := #[(48 : UInt8), (49 : UInt8), (50 : UInt8), (51 : UInt8), (52 : UInt8), (53 : UInt8), (54 : UInt8), (55 : UInt8), (56 : UInt8), (57 : UInt8), (97 : UInt8), (98
  : UInt8), (99 : UInt8), (100 : UInt8), q563, (102 : UInt8)] })
abbrev q533 (p0 : q14) (p1 : q6) := (q574 <= wrZ (p0.1 + (1 : Int)) /\ wrZ (p0.1 + (1 : Int)) < (lnZ p1.1))
abbrev q571 (p0 : q1) (p1 : q1) := (wrZ (↑(BitVec.toNat (BitVec.ofInt (64 : Nat) (wrZ (p0.1 * (2 : Int) ^ (4 : Nat))) ||| BitVec.ofInt (64 : Nat) p1.1)) : Int))
abbrev q548 (p0 : q6) (p1 : q14) (p2 : q1) (p3 : q6) (p4 : Int × List Int × Unit -> List Int × Unit -> Prop) (p5 : Int × List Int × Unit -> List Int × Unit -> Nat) := (True /\ (∀ (y_2 :
  q1), (wiZ y_2.1 /\ True) -> y_2.1 = idxB q567 (List.getD p0.1 (Int.toNat (wrZ (p1.1 + (1 : Int)))) q574) -> (decide (q559 p2) = false -> True) /\ (decide (q559 p2) = false -> (q558 p2) =
  true /\ True) /\ (decide (q559 p2) = false -> (q558 p2) = true) /\ ((bif decide (q559 p2) then true else decide (q559 y_2)) = true -> bs { data := #[] } = unhexD p0.1) /\ ((bif decide (q559
  p2) then true else decide (q559 y_2)) = false -> q574 <= (4 : Int) /\ (0 : Nat) < (1 : Nat) /\ (List.length p3.1 + List.length [IntKind.wrap IntKind.u8 (q571 p2 y_2)]) * (1 : Nat) <=
  (140737488355328 : Nat) /\ List.length p3.1 + List.length [IntKind.wrap IntKind.u8 (q571 p2 y_2)] <= (9223372036854775807 : Nat) /\ Value.bool false = Value.bool false /\ p0.1 = p0.1 /\ p4
  (wrZ (p1.1 + (2 : Int)), p1.2.1, ()) (p3.1 ++ [IntKind.wrap IntKind.u8 (q571 p2 y_2)], ()) /\ p5 (wrZ (p1.1 + (2 : Int)), p1.2.1, ()) (p3.1 ++ [IntKind.wrap IntKind.u8 (q571 p2 y_2)], ()) <
  p5 p1 p3)) /\ True)
abbrev q464 (p0 : q14) (p1 : q6) (p2 : q1) (p3 : q6) (p4 : Int × List Int × Unit -> List Int × Unit -> Prop) (p5 : Int × List Int × Unit -> List Int × Unit -> Nat) := ((q533 p0 p1) /\ (q548
  p1 p0 p2 p3 p4 p5) /\ True)
abbrev q378 (p0 : q6) (p1 : q14) (p2 : q6) (p3 : Int × List Int × Unit -> List Int × Unit -> Prop) (p4 : Int × List Int × Unit -> List Int × Unit -> Nat) := (True /\ (∀ (y_1 : q1), (wiZ
  y_1.1 /\ True) -> y_1.1 = idxB q465 (List.getD p0.1 (Int.toNat p1.1) q421) -> (q464 p1 p0 y_1 p2 p3 p4) /\ True) /\ True)
abbrev q463 (p0 : q6) (p1 : q14) (p2 : q6) (p3 : Int × List Int × Unit -> List Int × Unit -> Prop) (p4 : Int × List Int × Unit -> List Int × Unit -> Nat) := (True /\ (∀ (y_1 : q1), (wiZ
  y_1.1 /\ True) -> y_1.1 = idxB q567 (List.getD p0.1 (Int.toNat p1.1) q529) -> (q548 p0 p1 y_1 p2 p3 p4) /\ True) /\ True)
abbrev q379 (p0 : q14) (p1 : q6) (p2 : q6) (p3 : Int × List Int × Unit -> List Int × Unit -> Prop) (p4 : Int × List Int × Unit -> List Int × Unit -> Nat) := ((q533 p0 p1) /\ (q463 p1 p0 p2
  p3 p4) /\ True)
abbrev q461 := (97 : UInt8)
abbrev q462 (p0 : q15) (p1 : q28) := (((q374 p0 p1) /\ (decide (p0.1.1 = (4 : Int)) = false -> (decide (p0.1.1 = (7 : Int)) = true -> ∃ (I : q29), ∃ (μ : q30), (q375 p0 I p1) /\ ∀ (y : q14)
  (z : Unit × Unit), (q125 y) -> True /\ True -> I y z -> (q373 y p0 I μ z) /\ (q377 y p0)) /\ (q376 p0 p1))) /\ True)
def t14 : Prop :=
  ∀ (x : Unit), True -> True -> false = false /\ (decide (q77 = q75) || false) = false /\ (decide ((4 : Int) = q75) || (decide ((4 : Int) = q77) || false)) = false /\ (decide ((7 : Int) =
  q75) || (decide ((7 : Int) = q77) || (decide ((7 : Int) = (4 : Int)) || false))) = false /\ [] ++ [(q75, (26 : Nat), bs { data := #[q563, (109 : UInt8), q461, (105 : UInt8), (108 : UInt8),
  q124] })] ++ [(q77, (39 : Nat), bs { data := #[(100 : UInt8), (110 : UInt8), (115 : UInt8), q124] })] ++ [((4 : Int), (40 : Nat), bs { data := #[(110 : UInt8), q461, (109 : UInt8), q563,
  q124] })] ++ [((7 : Int), (27 : Nat), bs { data := #[(105 : UInt8), (112 : UInt8), q124] })] = kindsT
theorem e14 : t14 = Con.vc c_host_kinds GL (mkEnv ty [] [] [] [0]) {} Tryz.f14.ntmps Tryz.f14.results.toList (bodyOf Tryz.f14) := by kernel_rfl
theorem k14 : t14 := by
  unfold t14
  delta q77 q75 q563 q461 q124
  rintro _ hx hp
  try dsimp +instances only [dft_int, dft_sl, dft_str]
  simp only [true_and, and_true, eq_self_iff_true, implies_true, reduceCtorEq, false_implies, true_implies, decide_eq_true_eq, decide_eq_false_iff_not, beq_self_eq_true, Bool.not_eq_true', ne_eq, Decidable.not_not, List.nil_append, List.length_singleton, List.length_cons, List.length_nil, Nat.zero_add, Nat.add_zero, Nat.mul_one, and_self, beq_iff_eq, Bool.not_true, Bool.not_false, Bool.not_eq_false', Bool.cond_false_right, Bool.and_eq_true, imp_self, Bool.not_eq_true, Bool.cond_true_left, Bool.or_eq_true]
  exact ⟨by decide, by decide, by decide, by decide⟩
theorem h14 : c_host_kinds.ok Tryz.prog GL 14 := con_ok (H := {}) (mkEnv_ok (gl := GL) (l := []) (q := []) (d := []) _ tyOk (by kernel_rfl) trivial trivial trivial) (by kernel_rfl) (by kernel_rfl) (Eq.mp e14 k14)
def t38 : Prop :=
  ∀ (x : q6), (q71 x) -> List.length x.1 <= q88 -> List.length x.1 <= q88 /\ (∀ (y : q4), (q49 y) -> y.1 = dnsD x.1 -> (y.1 = false -> True) /\ (y.1 = false -> (y.1 == false) = true /\
  List.length x.1 <= q88 /\ (∀ (y : q4), (q49 y) -> y.1 = wildD x.1 -> y.1 = (dnsD x.1 || wildD x.1)) /\ True) /\ (y.1 = !false -> true = (dnsD x.1 || wildD x.1))) /\ True
theorem e38 : t38 = Con.vc c_host_kinds_1 GL (mkEnv ty [(23, conSem c_host_DNS), (24, conSem c_host_Wild)] [] [] [0, 2]) {} Tryz.f38.ntmps Tryz.f38.results.toList (bodyOf Tryz.f38) := by kernel_rfl
theorem k38 : t38 := by
  unfold t38
  delta q6 q71 q88 q4 q49 wsZ wbZ
  rintro ⟨s, _⟩ hx hp
  try dsimp +instances only [dft_int, dft_sl, dft_str]
  simp only [true_and, and_true, eq_self_iff_true, implies_true, reduceCtorEq, false_implies, true_implies, decide_eq_true_eq, decide_eq_false_iff_not, beq_self_eq_true, Bool.not_eq_true', ne_eq, Decidable.not_not, List.nil_append, List.length_singleton, List.length_cons, List.length_nil, Nat.zero_add, Nat.add_zero, Nat.mul_one, and_self, beq_iff_eq, Bool.not_true, Bool.not_false, Bool.not_eq_false', Bool.cond_false_right, Bool.and_eq_true, imp_self, Bool.not_eq_true, Bool.cond_true_left, Bool.or_eq_true]
  refine ⟨hp, ?_⟩
  rintro ⟨a, _⟩ _ ea
  simp only at ea ⊢
  subst ea
  refine ⟨fun h => ⟨h, hp, ?_⟩, fun h => by rw [h]; rfl⟩
  rintro ⟨b, _⟩ _ eb
  simp only at eb ⊢
  rw [eb, h]; rfl
theorem h38 : c_host_kinds_1.ok Tryz.prog GL 38 := con_ok (H := {}) (mkEnv_ok (gl := GL) (l := [(23, conSem c_host_DNS), (24, conSem c_host_Wild)]) (q := []) (d := []) _ tyOk (by kernel_rfl) ⟨h23.call, h24.call, trivial⟩ trivial trivial) (by kernel_rfl) (by kernel_rfl) (Eq.mp e38 k38)
def t39 : Prop :=
  ∀ (x : q6), (q71 x) -> List.length x.1 <= q175 -> lenB x.1 <= q175 /\ (∀ (y : q27), (q365 y) -> decQ x.1 y.1 y.2.1 = true -> decide (y.2.1 = q40) = namedD x.1) /\ True
theorem e39 : t39 = Con.vc c_host_named GL (mkEnv ty [(15, conSem c_name_Decode)] [] [] [0, 2, 4]) {} Tryz.f39.ntmps Tryz.f39.results.toList (bodyOf Tryz.f39) := by kernel_rfl
theorem k39 : t39 := by
  unfold t39
  delta q6 q71 q175 q27 q365 q40 wsZ q484 wiZ q541
  rintro ⟨s, _⟩ hx hp
  try dsimp +instances only [dft_int, dft_sl, dft_str]
  simp only [true_and, and_true, eq_self_iff_true, implies_true, reduceCtorEq, false_implies, true_implies, decide_eq_true_eq, decide_eq_false_iff_not, beq_self_eq_true, Bool.not_eq_true', ne_eq, Decidable.not_not, List.nil_append, List.length_singleton, List.length_cons, List.length_nil, Nat.zero_add, Nat.add_zero, Nat.mul_one, and_self, beq_iff_eq, Bool.not_true, Bool.not_false, Bool.not_eq_false', Bool.cond_false_right, Bool.and_eq_true, imp_self, Bool.not_eq_true, Bool.cond_true_left, Bool.or_eq_true]
  refine ⟨by rw [lenB]; exact hp, ?_⟩
  rintro ⟨l, e, _⟩ _ h
  exact (dec_named h).1
theorem h39 : c_host_named.ok Tryz.prog GL 39 := con_ok (H := {}) (mkEnv_ok (gl := GL) (l := [(15, conSem c_name_Decode)]) (q := []) (d := []) _ tyOk (by kernel_rfl) ⟨h15.call, trivial⟩ trivial trivial) (by kernel_rfl) (by kernel_rfl) (Eq.mp e39 k39)
def t8 : Prop :=
  ∀ (x : q15), (q146 x) -> List.length x.1.2 <= q175 -> List.length [SV.dat q148 x.1.1, SV.dat Kd.str x.1.2] <= q72 /\ (True /\ (∀ (y : q28), (q372 y) -> y.1 = kindsT -> (((q367 x y) /\ (q371
  x y) /\ (q369 x y) /\ True) /\ (q368 x y) /\ True) /\ (q76 <= q72 /\ (q370 x y) /\ True) /\ True) /\ True) /\ ((True /\ (∀ (y : q28), (q372 y) -> y.1 = kindsT -> ((q367 x y) /\ (q371 x y)
  /\ (q369 x y) /\ True) /\ (q368 x y) /\ True) /\ True) /\ (q76 <= q72 /\ (q366 x) /\ True) /\ True) /\ (q76 <= q72 /\ (True /\ (∀ (y : q28), (q372 y) -> y.1 = kindsT -> (q370 x y) /\ True)
  /\ True) /\ ((q366 x) /\ True) /\ True) /\ True
theorem e8 : t8 = Con.vc c_host_May GL (mkEnvO ty [(14, conSem c_host_kinds), (25, conSem c_host_Email), (38, conSem c_host_kinds_1), (39, conSem c_host_named), (26, conSem c_host_IP)] [] [] [0, 1, 2, 3, 4] [2000025,2000038,2000039,2000026]) {} Tryz.f8.ntmps Tryz.f8.results.toList (bodyOf Tryz.f8) := by kernel_rfl
theorem k8 : t8 := by
  unfold t8
  delta q15 q146 q175 q148 q72 q28 q372 q367 q371 q369 q368 q76 q370 q366 q484 q471 q515 q516 q545 q546 q514 q541 q555 q570 q579 q578 q581 q4 wbZ
  rintro ⟨⟨k, s⟩, _⟩ hx hp
  have hp : s.length ≤ 100000000 := hp
  have hp9 : s.length ≤ 1000000000 := by omega
  try dsimp +instances only [dft_int, dft_sl, dft_str]
  simp only [true_and, and_true, eq_self_iff_true, implies_true, reduceCtorEq, false_implies, true_implies, decide_eq_true_eq, decide_eq_false_iff_not, beq_self_eq_true, Bool.not_eq_true', ne_eq, Decidable.not_not, List.nil_append, List.length_singleton, List.length_cons, List.length_nil, Nat.zero_add, Nat.add_zero, Nat.mul_one, and_self, beq_iff_eq, Bool.not_true, Bool.not_false, Bool.not_eq_false', Bool.cond_false_right, Bool.and_eq_true, imp_self, Bool.not_eq_true, Bool.cond_true_left, Bool.or_eq_true]
  simp only [all_mp, all_bool]
  rcases (show k = 1 ∨ k = 2 ∨ k = 4 ∨ k = 7 ∨ (k ≠ 1 ∧ k ≠ 2 ∧ k ≠ 4 ∧ k ≠ 7) by omega) with rfl | rfl | rfl | rfl | ⟨a, b, c, d⟩
  . simp [kindsT, lookB, lookD, mayG, hp, hp9]
  . simp [kindsT, lookB, lookD, mayG, hp, hp9]
  . simp [kindsT, lookB, lookD, mayG, hp, hp9]
  . simp [kindsT, lookB, lookD, mayG, hp, hp9]
  . simp [kindsT, lookB, lookD, mayG, hp, hp9, a, b, c, d]
theorem h8 : c_host_May.ok Tryz.prog GL 8 := conO_ok (H := {}) (mkEnvO_ok (gl := GL) (l := [(14, conSem c_host_kinds), (25, conSem c_host_Email), (38, conSem c_host_kinds_1), (39, conSem c_host_named), (26, conSem c_host_IP)]) (q := []) (d := []) _ [2000025,2000038,2000039,2000026] tyOk (by kernel_rfl) ⟨h14.call, h25.call, h38.call, h39.call, h26.call, trivial⟩ trivial trivial) (by kernel_rfl) (by kernel_rfl) (Eq.mp e8 k8)
def t6 : Prop :=
  ∀ (x : q15), (q146 x) -> List.length x.1.2 <= q183 -> List.length [SV.dat q148 x.1.1, SV.dat Kd.str x.1.2] <= q72 /\ List.length x.1.2 <= q175 /\ (∀ (y : q4), (q49 y) -> y.1 = mayG x.1.1
  x.1.2 -> ((!y.1) = true -> (bs { data := #[] }, (130 : Int)) = ShowG x.1.1 x.1.2) /\ ((!y.1) = false -> (True /\ (∀ (y : q28), (q372 y) -> y.1 = kindsT -> ((q462 x y) /\ True) /\ True) /\
  True) /\ ((True /\ (∀ (y : q28), (q372 y) -> y.1 = kindsT -> (q462 x y) /\ True) /\ True) /\ True) /\ True)) /\ True
theorem e6 : t6 = Con.vc c_host_Show GL (mkEnv ty [(8, conSem c_host_May), (14, conSem c_host_kinds), (15, conSem c_name_Decode), (16, conSem c_name_Text)] [] [] [0, 1, 2, 3, 4, 5, 7, 9, 12, 19, 20, 37, 41, 42, 43]) {} Tryz.f6.ntmps Tryz.f6.results.toList (bodyOf Tryz.f6) := by kernel_rfl
theorem k6 : t6 := by
  unfold t6
  delta q15 q146 q183 q148 q72 q175 q4 q49 q28 q372 q462 q484 wbZ q471 q374 q29 q30 q375 q14 q125 q373 q377 q376 q541 q27 wiZ q0 wsZ q521 q491 q421 lnZ q575 q413 q523 q519 q520 q518 q517 wrZ q557 q568 q556 q567 q574
  rintro ⟨⟨k, s⟩, _⟩ hx hp
  have hp : s.length ≤ 10000000 := hp
  have hb : Bys s := str_bys hx.1.2
  try dsimp +instances only [dft_int, dft_sl, dft_str]
  simp only [true_and, and_true, eq_self_iff_true, implies_true, reduceCtorEq, false_implies, true_implies, decide_eq_true_eq, decide_eq_false_iff_not, beq_self_eq_true, Bool.not_eq_true', ne_eq, Decidable.not_not, List.nil_append, List.length_singleton, List.length_cons, List.length_nil, Nat.zero_add, Nat.add_zero, Nat.mul_one, and_self, beq_iff_eq, Bool.not_true, Bool.not_false, Bool.not_eq_false', Bool.cond_false_right, Bool.and_eq_true, imp_self, Bool.not_eq_true, Bool.cond_true_left, Bool.or_eq_true]
  simp only [all_mp, bs_digs, bs_nil]
  refine ⟨by decide, by omega, ?_⟩
  rintro ⟨m, _⟩ _ em
  simp only at em ⊢
  subst em
  refine ⟨fun h => by rw [ShowG, h]; rfl, fun hm _ => ⟨fun h4 => ?_, fun h4 => ⟨fun h7 => ?_, fun h7 => ?_⟩⟩⟩
  . subst h4
    have hn : namedD s = true := hm
    have hS : ShowG 4 s = (showG 4 s, 0) := by rw [ShowG, hm]; rfl
    refine ⟨by rw [lenB]; omega, ?_⟩
    rintro ⟨l, e, _⟩ _ hd
    simp only at hd ⊢
    obtain ⟨rfl, rfl⟩ := (dec_named hd).2 hn
    have hmn := (named_text hn).1
    have h16 := (mayN_args hmn).1
    refine ⟨by omega, ?_⟩
    rintro ⟨t, f, _⟩ _ ht
    simp only at ht ⊢
    rw [TextN, if_pos hmn] at ht
    obtain ⟨rfl, rfl⟩ := Prod.mk.inj ht
    have hl := txtN_len (mayN_args hmn).2 _ (Nat.le_refl _)
    rw [txtN_all (Nat.le_refl _)] at hl
    refine ⟨?_, ?_⟩
    . simp [kindsT, lookD]
      omega
    . rw [hS]; rfl
  . subst h7
    have hS : ShowG 7 s = (showG 7 s, 0) := by rw [ShowG, hm]; rfl
    refine ⟨fun y _ => 0 ≤ y.1 ∧ y.1 ≤ s.length ∧ (y.2.1 : List Int) = [105, 112, 58] ++ hexD (s.take y.1.toNat), fun y _ => ((s.length : Int) - y.1).toNat, ⟨Int.le_refl 0, by simp only; omega, rfl⟩, ?_⟩
    rintro ⟨i, out, _⟩ ⟨⟩ _ ⟨i0, i1, ho⟩
    simp only at i0 i1 ho ⊢
    refine ⟨fun hlt => ?_, fun hge => ?_⟩
    . have hc := bys_get hb i.toNat
      obtain ⟨q1, q2, _⟩ := byte_parts hc
      have d1 := hx_dig_val q1
      have d2 := hx_dig_val q2
      have hlen := hex_len (s.take i.toNat)
      rw [List.length_take] at hlen
      rw [shr4 hc.1, and15 hc, utf8_one d1.2.1 d1.2.2, utf8_one d2.2.1 d2.2.2, wrapK (i + 1) (by omega) (by omega)]
      have hst := hex_step hb (i := i.toNat) (by omega)
      refine ⟨⟨i0, hlt⟩, by decide, ⟨by omega, by omega⟩, by simp, ⟨i0, hlt⟩, ⟨by omega, by omega⟩, by simp, by simp, by rw [ho]; simp [hlen]; omega, ⟨by omega, by omega, ?_⟩, by omega⟩
      rw [show (i + 1).toNat = i.toNat + 1 by omega, hst, ho]
      simp
    . rw [hS, ho, List.take_of_length_le (by omega)]; rfl
  . rcases may_kinds hm with ⟨rfl, _⟩ | ⟨rfl, _⟩ | ⟨rfl, _⟩ | ⟨rfl, _⟩
    . exact ⟨by simp [kindsT, lookD]; omega, by rw [ShowG, hm]; rfl⟩
    . exact ⟨by simp [kindsT, lookD]; omega, by rw [ShowG, hm]; rfl⟩
    . exact absurd rfl h4
    . exact absurd rfl h7
theorem h6 : c_host_Show.ok Tryz.prog GL 6 := con_ok (H := {}) (mkEnv_ok (gl := GL) (l := [(8, conSem c_host_May), (14, conSem c_host_kinds), (15, conSem c_name_Decode), (16, conSem c_name_Text)]) (q := []) (d := []) _ tyOk (by kernel_rfl) ⟨h8.call, h14.call, h15.call, h16.call, trivial⟩ trivial trivial) (by kernel_rfl) (by kernel_rfl) (Eq.mp e6 k6)
def t31 : Prop :=
  ∀ (x : q6), (q71 x) -> List.length x.1 <= q175 -> q77 ≠ q40 /\ (decide (Int.tmod (lnZ x.1) q77 ≠ q40) = true -> bs { data := #[] } = unhexD x.1) /\ (decide (Int.tmod (lnZ x.1) q77 ≠ q40) =
  false -> ∃ (I : Int × List Int × Unit -> List Int × Unit -> Prop), ∃ (μ : Int × List Int × Unit -> List Int × Unit -> Nat), (Value.bool false = Value.bool false /\ x.1 = x.1 /\ I (q40, bs {
  data := #[] }, ()) ([], ())) /\ ∀ (y : q14) (z : q6), (q125 y) -> (q159 z) -> I y z -> (decide (y.1 < (lnZ x.1)) = true -> ((q40 <= y.1 /\ y.1 < (lnZ x.1)) /\ (True /\ (∀ (y_1 : q1), (q36
  y_1) -> y_1.1 = idxB q465 (List.getD x.1 (Int.toNat y.1) q421) -> ((q464 y x y_1 z I μ) /\ True) /\ True) /\ True) /\ ((q378 x y z I μ) /\ (q379 y x z I μ) /\ True) /\ True) /\ (((q40 <=
  y.1 /\ y.1 < (lnZ x.1)) /\ (q378 x y z I μ) /\ (q379 y x z I μ) /\ True) /\ ((q533 y x) /\ ((q40 <= y.1 /\ y.1 < (lnZ x.1)) /\ (q463 x y z I μ) /\ True) /\ True) /\ True) /\ True) /\
  (decide (y.1 < (lnZ x.1)) = false -> z.1 = unhexD x.1))
theorem e31 : t31 = Con.vc c_host_bytes GL (mkEnv ty [(66, conSem c_strings_IndexByte)] [] [] [0, 2, 3, 4, 5, 6, 10, 14, 31]) {} Tryz.f31.ntmps Tryz.f31.results.toList (bodyOf Tryz.f31) := by kernel_rfl
theorem k31 : t31 := by
  unfold t31
  delta q6 q71 q175 q77 q40 lnZ q14 q125 q159 q1 q36 q465 q421 q464 q378 q379 q533 q463 wsZ wiZ wyZ q563 q548 q574 wrZ q567 q529 q559 q558 q571
  rintro ⟨s, _⟩ hx hp
  have hp : s.length ≤ 100000000 := hp
  have hb : Bys s := str_bys hx.1
  try dsimp +instances only [dft_int, dft_sl, dft_str]
  simp only [true_and, and_true, eq_self_iff_true, implies_true, reduceCtorEq, false_implies, true_implies, decide_eq_true_eq, decide_eq_false_iff_not, beq_self_eq_true, Bool.not_eq_true', ne_eq, Decidable.not_not, List.nil_append, List.length_singleton, List.length_cons, List.length_nil, Nat.zero_add, Nat.add_zero, Nat.mul_one, and_self, beq_iff_eq, Bool.not_true, Bool.not_false, Bool.not_eq_false', Bool.cond_false_right, Bool.and_eq_true, imp_self, Bool.not_eq_true, Bool.cond_true_left, Bool.or_eq_true]
  simp only [all_int, bs_digs, bs_nil]
  have htm : (s.length : Int).tmod 2 = ((s.length % 2 : Nat) : Int) := by rw [Int.tmod_eq_emod_of_nonneg (by omega)]; rfl
  rw [htm]
  refine ⟨by decide, fun h => ?_, fun he => ?_⟩
  . rw [unhexD, unhex_odd (by omega)]; rfl
  refine ⟨fun y z => 0 ≤ y.1 ∧ y.1 ≤ s.length ∧ y.1 = 2 * (z.1 : List Int).length ∧ unhexP s = (unhexP (s.drop y.1.toNat)).map ((z.1 : List Int) ++ ·), fun y _ => ((s.length : Int) - y.1).toNat, ⟨Int.le_refl 0, by simp only; omega, rfl, by simp⟩, ?_⟩
  rintro ⟨i, q, _⟩ ⟨b, _⟩ _ _ ⟨i0, i1, i2, hs⟩
  simp only at i0 i1 i2 hs ⊢
  refine ⟨fun hlt => ?_, fun hge => ?_⟩
  . have h2 : i.toNat + 1 < s.length := by omega
    have w1 : IntKind.i64.wrap (i + 1) = i + 1 := wrapK _ (by omega) (by omega)
    have w2 : IntKind.i64.wrap (i + 2) = i + 2 := wrapK _ (by omega) (by omega)
    have c1 := hxV_idx (bys_get hb i.toNat)
    have c2 := hxV_idx (bys_get hb (i + 1).toNat)
    have r1 := hxV_range (s.getD i.toNat 0)
    have r2 := hxV_range (s.getD (i + 1).toNat 0)
    have e1 : (i + 1).toNat = i.toNat + 1 := by omega
    have e2 : (i + 2).toNat = i.toNat + 2 := by omega
    rw [w1, w2, c1, c2]
    have fin : (hxV (s.getD i.toNat 0) < 0 ∨ hxV (s.getD (i + 1).toNat 0) < 0 → [] = unhexD s) ∧
        ((decide (hxV (s.getD i.toNat 0) < 0) || decide (hxV (s.getD (i + 1).toNat 0) < 0)) = false → 0 ≤ (hxV (s.getD i.toNat 0)) ∧ 0 ≤ hxV (s.getD (i + 1).toNat 0)) := by
      refine ⟨fun h => ?_, fun h => ?_⟩
      . rw [e1] at h
        exact (unhex_bad hs h2 h).symm
      . rw [Bool.or_eq_false_iff, decide_eq_false_iff_not, decide_eq_false_iff_not] at h
        omega
    have next : (decide (hxV (s.getD i.toNat 0) < 0) || decide (hxV (s.getD (i + 1).toNat 0) < 0)) = false → IntKind.u8.wrap (IntKind.i64.wrap ((BitVec.ofInt 64 (IntKind.i64.wrap (hxV (s.getD i.toNat 0) * 2 ^ 4)) ||| BitVec.ofInt 64 (hxV (s.getD (i + 1).toNat 0))).toNat : Int)) = 16 * hxV (s.getD i.toNat 0) + hxV (s.getD (i + 1).toNat 0) ∧
        unhexP s = (unhexP (s.drop (i + 2).toNat)).map ((b ++ [16 * hxV (s.getD i.toNat 0) + hxV (s.getD (i + 1).toNat 0)]) ++ ·) := by
      intro h
      have h3 := fin.2 h
      refine ⟨or16 ⟨h3.1, r1.2⟩ ⟨h3.2, r2.2⟩, ?_⟩
      rw [e1] at h3
      rw [e1, e2]
      exact unhex_next hs h2 (by omega)
    have tailG : ∀ h : (decide (hxV (s.getD i.toNat 0) < 0) || decide (hxV (s.getD (i + 1).toNat 0) < 0)) = false, i + 2 = 2 * ((b ++ [IntKind.u8.wrap (IntKind.i64.wrap ((BitVec.ofInt 64 (IntKind.i64.wrap (hxV (s.getD i.toNat 0) * 2 ^ 4)) ||| BitVec.ofInt 64 (hxV (s.getD (i + 1).toNat 0))).toNat : Int))]).length : Int) := fun h => by simp; omega
    have all := fun h => And.intro (tailG h) (next h)
    have hi1 : 0 ≤ i + 1 ∧ i + 1 < (s.length : Int) := ⟨by omega, by omega⟩
    repeat' first
      | exact ⟨i0, hlt⟩
      | exact hi1
      | exact fin.1
      | (intro h
         obtain ⟨a1, a2, a3⟩ := all h
         refine ⟨by decide, by decide, by omega, by omega, ⟨by omega, by omega, a1, ?_⟩, by omega⟩
         rw [a2]; exact a3)
      | intro _
      | refine ⟨?_, ?_⟩
  . rw [show s.drop i.toNat = [] from List.drop_of_length_le (by omega)] at hs
    rw [unhexD, hs]
    simp [unhexP]
theorem h31 : c_host_bytes.ok Tryz.prog GL 31 := con_ok (H := {}) (mkEnv_ok (gl := GL) (l := [(66, conSem c_strings_IndexByte)]) (q := []) (d := []) _ tyOk (by kernel_rfl) ⟨h66.call, trivial⟩ trivial trivial) (by kernel_rfl) (by kernel_rfl) (Eq.mp e31 k31)
end Go.Proofs.YtlpbhgcndebkcaaGreatDoor
end
section
namespace Go.Proofs.YtlpbhgcndebkcaaGreatDoor
open Go Go.Vc Go.Pl Go.Proofs
def c_r13_May : Con := { args := [.dat GT], res := [.dat .bool], pre := fun x => x.1.2.length ≤ 100000000, post := fun x y => y.1 = mayG x.1.1 x.1.2 }
def c_r13_Show : Con := { args := [.dat GT], res := [.dat .str, .dat I64], pre := fun x => x.1.2.length ≤ 10000000, post := fun x y => (y.1, y.2.1) = ShowG x.1.1 x.1.2 }
def c_r13_value : Con := { args := [.dat U8], res := [.dat I64], pre := fun _ => True, post := fun x y => y.1 = hxV x.1 }
def c_r13_rest : Con := { args := [.dat .str, .dat .str], res := [.dat .str, .dat .bool], pre := fun x => x.1.length ≤ 100000000, post := fun x y => (y.1, y.2.1) = if hasP x.2.1 x.1 then (x.1.drop x.2.1.length, true) else ([], false) }
def c_r13_Parse : Con := { args := [.dat .str], res := [.dat GT, .dat I64], pre := fun x => x.1.length ≤ 10000000, post := fun x y => parG x.1 y.1.1 y.1.2 y.2.1 = true }
end Go.Proofs.YtlpbhgcndebkcaaGreatDoor
end
section
namespace Go.Proofs.YtlpbhgcndebkcaaGreatDoor
open Go Go.Vc Go.Pl Go.Proofs
set_option linter.unusedVariables false
set_option linter.unusedSimpArgs false
set_option maxRecDepth 20000
abbrev q31 := (Unit -> (Int × List Int × Unit) × (Int × List Int × Unit) × Unit -> Prop)
abbrev q32 := ((Int × List Int × Unit) × (Int × List Int × Unit) × Unit)
abbrev q550 (p0 : q15) (p1 : q14) := (Int.tdiv (wrZ (q575 p0 p1)) (16 : Int))
abbrev q468 (p0 : q15) (p1 : q14) := (q529 <= wrZ (q550 p0 p1) /\ wrZ (q550 p0 p1) < q523)
abbrev q551 (p0 : q15) (p1 : q14) := (wrZ (q575 p0 p1))
abbrev q572 (p0 : q15) (p1 : q14) := (Int.toNat (wrZ (Int.tdiv (wrZ (q575 p0 p1)) (16 : Int))))
abbrev q573 (p0 : q15) (p1 : q14) := (Int.toNat (Int.tmod (wrZ (q575 p0 p1)) (16 : Int)))
abbrev q549 (p0 : q14) (p1 : q15) (p2 : q29) (p3 : q30) (p4 : Unit × Unit) := (((List.length p0.2.1 + List.length [List.getD q567 (q572 p1 p0) q574, List.getD q567 (q573 p1 p0) q574] <=
  (9223372036854775807 : Nat) /\ bs { data := #[(48 : UInt8), (49 : UInt8), (50 : UInt8), (51 : UInt8), (52 : UInt8), (53 : UInt8), (54 : UInt8), (55 : UInt8), (56 : UInt8), (57 : UInt8), (97
  : UInt8), (98 : UInt8), (99 : UInt8), (100 : UInt8), q563, (102 : UInt8)] } = bs { data := #[(48 : UInt8), (49 : UInt8), (50 : UInt8), (51 : UInt8), (52 : UInt8), (53 : UInt8), (54 :
  UInt8), (55 : UInt8), (56 : UInt8), (57 : UInt8), (97 : UInt8), (98 : UInt8), (99 : UInt8), (100 : UInt8), q563, (102 : UInt8)] } /\ Value.bool false = Value.bool false /\ Value.bool false
  = Value.bool false /\ Value.bool false = Value.bool false /\ p1.1.1 = p1.1.1 /\ Value.bool false = Value.bool false /\ q574 = q574 /\ bs { data := #[] } = bs { data := #[] } /\ p1.1 = p1.1
  /\ p1.1.1 = p1.1.1 /\ p1.1.2 = p1.1.2 /\ p2 (wrZ (p0.1 + (1 : Int)), p0.2.1 ++ [List.getD q567 (q572 p1 p0) q574, List.getD q567 (q573 p1 p0) q574], ()) ((), ()) /\ p3 (wrZ (p0.1 + (1 :
  Int)), p0.2.1 ++ [List.getD q567 (q572 p1 p0) q574, List.getD q567 (q573 p1 p0) q574], ()) ((), ()) < p3 p0 p4) /\ True) /\ True)
abbrev q467 (p0 : q15) (p1 : q14) (p2 : q29) (p3 : q30) (p4 : Unit × Unit) := ((q529 <= Int.tmod (q551 p0 p1) (16 : Int) /\ Int.tmod (q551 p0 p1) (16 : Int) < q523) /\ (q549 p1 p0 p2 p3 p4)
  /\ True)
abbrev q380 (p0 : q15) (p1 : q14) (p2 : q29) (p3 : q30) (p4 : Unit × Unit) := ((q468 p0 p1) /\ (q467 p0 p1 p2 p3 p4) /\ True)
abbrev q469 (p0 : q15) (p1 : q14) := (q529 <= Int.tmod (q551 p0 p1) (16 : Int) /\ Int.tmod (q551 p0 p1) (16 : Int) < q523)
abbrev q466 (p0 : q15) (p1 : q14) (p2 : q29) (p3 : q30) (p4 : Unit × Unit) := ((q529 <= wrZ (q550 p0 p1) /\ wrZ (q550 p0 p1) < q523) /\ (q549 p1 p0 p2 p3 p4) /\ True)
abbrev q381 (p0 : q15) (p1 : q14) (p2 : q29) (p3 : q30) (p4 : Unit × Unit) := ((q469 p0 p1) /\ (q466 p0 p1 p2 p3 p4) /\ True)
abbrev q382 (p0 : q2) := (bif decide ((lnZ p0.1) < (lnZ p0.2.1)) then true else decide (List.take (Int.toNat (lnZ p0.2.1)) p0.1 ≠ p0.2.1))
abbrev q383 (p0 : q2) := (decide ((lnZ p0.1) < (lnZ p0.2.1)) == false)
abbrev q384 (p0 : q2) := ((lnZ p0.1) < (lnZ p0.2.1))
abbrev q385 (p0 : q5) (p1 : q6) (p2 : q31) (p3 : q32) := (p0.2.1 = false -> p0.2.1 = p0.2.1 /\ p0.1 = p0.1 /\ q421 = q421 /\ p1.1 = p1.1 /\ p2 () ((p3.1.1, p3.1.2.1, ()), (p3.2.1.1,
  p3.2.1.2.1, ()), ()))
abbrev q386 := (bs { data := #[q563, (109 : UInt8), q461, (105 : UInt8), (108 : UInt8), (58 : UInt8)] })
abbrev q387 (p0 : Unit × Unit × List Int × Unit) (p1 : q1) (p2 : q1) := (List.length p0.2.2.1 + List.length [IntKind.wrap IntKind.u8 (wrZ (wrZ (q423 * p1.1) + p2.1))])
abbrev q388 := (bs { data := #[(110 : UInt8), q461, (109 : UInt8), q563, (58 : UInt8)] })
abbrev q389 (p0 : q1) (p1 : q5) := (q421 <= wrZ (p0.1 + q528) /\ wrZ (p0.1 + q528) < (lnZ p1.1))
abbrev q390 (p0 : q5) (p1 : q1) := (List.getD p0.1 (Int.toNat (wrZ (p1.1 + q528))) q421)
abbrev q391 (p0 : q5) (p1 : q1) := (List.getD p0.1 (q411 p1) q421)
abbrev q392 (p0 : q1) (p1 : q1) := (wrZ (wrZ (q423 * p0.1) + p1.1))
abbrev q393 (p0 : q1) := (p0.1 + q445)
def t9 : Prop :=
  ∀ (x : q15), (q146 x) -> List.length x.1.2 <= q175 -> List.length [SV.dat q148 x.1.1, SV.dat Kd.str x.1.2] <= q72 /\ (decide (x.1.1 = q75) = true -> List.length x.1.2 <= q88 /\ (∀ (y : q4),
  (q49 y) -> y.1 = emailD x.1.2 -> y.1 = mayG x.1.1 x.1.2) /\ True) /\ (decide (x.1.1 = q75) = false -> (decide (x.1.1 = q77) = true -> List.length x.1.2 <= q88 /\ (∀ (y : q4), (q49 y) -> y.1
  = dnsD x.1.2 -> (y.1 = false -> True) /\ (y.1 = false -> (y.1 == false) = true /\ True) /\ (y.1 = false -> (y.1 == false) = true /\ List.length x.1.2 <= q88 /\ (∀ (y : q4), (q49 y) -> y.1 =
  wildD x.1.2 -> y.1 = mayG x.1.1 x.1.2) /\ True) /\ (y.1 = !false -> true = mayG x.1.1 x.1.2)) /\ True) /\ (decide (x.1.1 = q77) = false -> (decide (x.1.1 = (4 : Int)) = true -> lenB x.1.2
  <= q175 /\ (∀ (y : q27), (q365 y) -> decQ x.1.2 y.1 y.2.1 = true -> decide (y.2.1 = q40) = mayG x.1.1 x.1.2) /\ True) /\ (decide (x.1.1 = (4 : Int)) = false -> (decide (x.1.1 = (7 : Int)) =
  true -> True /\ (∀ (y : q4), (q49 y) -> y.1 = ipD x.1.2 -> y.1 = mayG x.1.1 x.1.2) /\ True) /\ (decide (x.1.1 = (7 : Int)) = false -> false = mayG x.1.1 x.1.2))))
theorem e9 : t9 = Con.vc c_r13_May GL (mkEnv ty [(19, conSem c_r13_Email), (20, conSem c_r13_DNS), (21, conSem c_r13_Wild), (17, conSem c_r12_Decode), (22, conSem c_r13_IP)] [] [] [0, 1, 2, 4, 6, 7, 12, 22, 33]) {} Tryz.f9.ntmps Tryz.f9.results.toList (bodyOf Tryz.f9) := by kernel_rfl
theorem k9 : t9 := by
  unfold t9
  delta q15 q146 q175 q148 q72 q75 q88 q4 q49 q77 q27 q365 q40 q484 wbZ wiZ q541
  rintro ⟨⟨k, s⟩, _⟩ hx hp
  have hp : s.length ≤ 100000000 := hp
  have hp9 : s.length ≤ 1000000000 := by omega
  try dsimp +instances only [dft_int, dft_sl, dft_str]
  simp only [true_and, and_true, eq_self_iff_true, implies_true, reduceCtorEq, false_implies, true_implies, decide_eq_true_eq, decide_eq_false_iff_not, beq_self_eq_true, Bool.not_eq_true', ne_eq, Decidable.not_not, List.nil_append, List.length_singleton, List.length_cons, List.length_nil, Nat.zero_add, Nat.add_zero, Nat.mul_one, and_self, beq_iff_eq, Bool.not_true, Bool.not_false, Bool.not_eq_false', Bool.cond_false_right, Bool.and_eq_true, imp_self, Bool.not_eq_true, Bool.cond_true_left, Bool.or_eq_true]
  simp only [all_bool]
  refine ⟨by decide, fun h => ?_, fun h1 => ⟨fun h => ?_, fun h2 => ⟨fun h => ?_, fun h4 => ⟨fun h => ?_, fun h7 => ?_⟩⟩⟩⟩
  . subst h; exact ⟨hp9, by rw [mayG]; rfl⟩
  . subst h
    refine ⟨hp9, fun h => ⟨h, hp9, ?_⟩, fun h => ?_⟩
    . show _ = (dnsD s || wildD s)
      rw [h]; rfl
    . show _ = (dnsD s || wildD s)
      rw [h]; rfl
  . subst h
    refine ⟨by rw [lenB]; exact hp, ?_⟩
    rintro ⟨l, e, _⟩ _ h
    exact (dec_named h).1
  . subst h; rfl
  . simp [mayG, h1, h2, h4, h7]
theorem h9 : c_r13_May.ok Tryz.prog GL 9 := con_ok (H := {}) (mkEnv_ok (gl := GL) (l := [(19, conSem c_r13_Email), (20, conSem c_r13_DNS), (21, conSem c_r13_Wild), (17, conSem c_r12_Decode), (22, conSem c_r13_IP)]) (q := []) (d := []) _ tyOk (by kernel_rfl) ⟨h19.call, h20.call, h21.call, h17.call, h22.call, trivial⟩ trivial trivial) (by kernel_rfl) (by kernel_rfl) (Eq.mp e9 k9)
def t7 : Prop :=
  ∀ (x : q15), (q146 x) -> List.length x.1.2 <= q183 -> List.length [SV.dat q148 x.1.1, SV.dat Kd.str x.1.2] <= q72 /\ List.length x.1.2 <= q175 /\ (∀ (y : q4), (q49 y) -> y.1 = mayG x.1.1
  x.1.2 -> ((!y.1) = true -> (bs { data := #[] }, (130 : Int)) = ShowG x.1.1 x.1.2) /\ ((!y.1) = false -> (decide (x.1.1 = q75) = true -> (6 : Nat) + List.length x.1.2 <= q157 /\ (bs { data
  := #[q563, (109 : UInt8), q461, (105 : UInt8), (108 : UInt8), q124] } ++ x.1.2, q40) = ShowG x.1.1 x.1.2) /\ (decide (x.1.1 = q75) = false -> (decide (x.1.1 = q77) = true -> (4 : Nat) +
  List.length x.1.2 <= q157 /\ (bs { data := #[(100 : UInt8), (110 : UInt8), (115 : UInt8), q124] } ++ x.1.2, q40) = ShowG x.1.1 x.1.2) /\ (decide (x.1.1 = q77) = false -> (decide (x.1.1 = (4
  : Int)) = true -> lenB x.1.2 <= q175 /\ (∀ (y : q27), (q365 y) -> decQ x.1.2 y.1 y.2.1 = true -> (List.length y.1 <= q88 /\ ∀ (a : q17), a ∈ y.1 -> List.length a.2 <= q175) /\ (∀ (y_1 :
  q0), (q98 y_1) -> (y_1.1, y_1.2.1) = TextN y.1 -> (5 : Nat) + List.length y_1.1 <= q157 /\ (bs { data := #[(110 : UInt8), q461, (109 : UInt8), q563, q124] } ++ y_1.1, q40) = ShowG x.1.1
  x.1.2) /\ True) /\ True) /\ (decide (x.1.1 = (4 : Int)) = false -> ∃ (I : q29), ∃ (μ : q30), (bs { data := #[(48 : UInt8), (49 : UInt8), (50 : UInt8), (51 : UInt8), (52 : UInt8), (53 :
  UInt8), (54 : UInt8), (55 : UInt8), (56 : UInt8), (57 : UInt8), q461, (98 : UInt8), (99 : UInt8), (100 : UInt8), q563, (102 : UInt8)] } = bs { data := #[(48 : UInt8), (49 : UInt8), (50 :
  UInt8), (51 : UInt8), (52 : UInt8), (53 : UInt8), (54 : UInt8), (55 : UInt8), (56 : UInt8), (57 : UInt8), q461, (98 : UInt8), (99 : UInt8), (100 : UInt8), q563, (102 : UInt8)] } /\
  Value.bool false = Value.bool false /\ Value.bool false = Value.bool false /\ Value.bool false = Value.bool false /\ x.1.1 = x.1.1 /\ Value.bool false = Value.bool false /\ q40 = q40 /\ bs
  { data := #[] } = bs { data := #[] } /\ x.1 = x.1 /\ x.1.1 = x.1.1 /\ x.1.2 = x.1.2 /\ I (q40, bs { data := #[(105 : UInt8), (112 : UInt8), q124] }, ()) ((), ())) /\ ∀ (y : q14) (z : Unit ×
  Unit), (q125 y) -> True /\ True -> I y z -> (decide (y.1 < (lnZ x.1.2)) = true -> (q40 <= y.1 /\ y.1 < (lnZ x.1.2)) /\ (q423 ≠ q40 /\ ((q468 x y) /\ (q423 ≠ q40 /\ (q467 x y I μ z) /\ True)
  /\ True) /\ (q423 ≠ q40 /\ (q380 x y I μ z) /\ (q381 x y I μ z) /\ True) /\ True) /\ (q423 ≠ q40 /\ (q423 ≠ q40 /\ (q380 x y I μ z) /\ (q381 x y I μ z) /\ True) /\ ((q469 x y) /\ (q423 ≠
  q40 /\ (q466 x y I μ z) /\ True) /\ True) /\ True) /\ True) /\ (q377 y x)))))) /\ True
theorem e7 : t7 = Con.vc c_r13_Show GL (mkEnv ty [(9, conSem c_r13_May), (17, conSem c_r12_Decode), (18, conSem c_r12_Text)] [] [] [0, 1, 2, 3, 4, 6, 8, 9, 10, 11, 14, 16, 17, 22, 27, 47]) {} Tryz.f7.ntmps Tryz.f7.results.toList (bodyOf Tryz.f7) := by kernel_rfl
theorem k7 : t7 := by
  unfold t7
  delta q15 q146 q183 q148 q72 q175 q4 q49 q75 q157 q563 q461 q124 q40 q77 q27 q365 q88 q17 q0 q98 q29 q30 q14 q125 lnZ q423 q468 q467 q380 q381 q469 q466 q377 q484 wbZ wiZ wsZ q529 wrZ q550 q523 q551 q549 q421 q541 q575 q567 q572 q574 q573
  rintro ⟨⟨k, s⟩, _⟩ hx hp
  have hp : s.length ≤ 10000000 := hp
  have hb : Bys s := str_bys hx.1.2
  try dsimp +instances only [dft_int, dft_sl, dft_str]
  simp only [true_and, and_true, eq_self_iff_true, implies_true, reduceCtorEq, false_implies, true_implies, decide_eq_true_eq, decide_eq_false_iff_not, beq_self_eq_true, Bool.not_eq_true', ne_eq, Decidable.not_not, List.nil_append, List.length_singleton, List.length_cons, List.length_nil, Nat.zero_add, Nat.add_zero, Nat.mul_one, and_self, beq_iff_eq, Bool.not_true, Bool.not_false, Bool.not_eq_false', Bool.cond_false_right, Bool.and_eq_true, imp_self, Bool.not_eq_true, Bool.cond_true_left, Bool.or_eq_true]
  simp only [bs_digs, bs_nil]
  refine ⟨by decide, by omega, ?_⟩
  rintro ⟨m, _⟩ _ em
  simp only at em ⊢
  subst em
  refine ⟨fun h => by rw [ShowG, h]; rfl, fun hm => ⟨fun h => ?_, fun h1 => ⟨fun h => ?_, fun h2 => ⟨fun h4 => ?_, fun h4 => ?_⟩⟩⟩⟩
  . subst h; exact ⟨by omega, by rw [ShowG, hm]; rfl⟩
  . subst h; exact ⟨by omega, by rw [ShowG, hm]; rfl⟩
  . subst h4
    have hn : namedD s = true := hm
    have hS : ShowG 4 s = (showG 4 s, 0) := by rw [ShowG, hm]; rfl
    refine ⟨by rw [lenB]; omega, ?_⟩
    rintro ⟨l, e, _⟩ _ hd
    simp only at hd ⊢
    obtain ⟨rfl, rfl⟩ := (dec_named hd).2 hn
    have hmn := (named_text hn).1
    have h16 := (mayN_args hmn).1
    have hal : ∀ a ∈ guessD s, a.2.length ≤ 100000000 := fun a ha => by have := mayA_len ((mayN_args hmn).2 a ha); omega
    refine ⟨⟨by omega, hal⟩, ?_⟩
    rintro ⟨t, f, _⟩ _ ht
    simp only at ht ⊢
    rw [TextN, if_pos hmn] at ht
    obtain ⟨rfl, rfl⟩ := Prod.mk.inj ht
    have hl := txtN_len (mayN_args hmn).2 _ (Nat.le_refl _)
    rw [txtN_all (Nat.le_refl _)] at hl
    exact ⟨by omega, by rw [hS]; rfl⟩
  . have h7 : k = 7 := by rcases may_kinds hm with ⟨h, _⟩ | ⟨h, _⟩ | ⟨h, _⟩ | ⟨h, _⟩ <;> omega
    subst h7
    have hS : ShowG 7 s = (showG 7 s, 0) := by rw [ShowG, hm]; rfl
    refine ⟨fun y _ => 0 ≤ y.1 ∧ y.1 ≤ s.length ∧ (y.2.1 : List Int) = [105, 112, 58] ++ hexD (s.take y.1.toNat), fun y _ => ((s.length : Int) - y.1).toNat, ⟨Int.le_refl 0, by simp only; omega, rfl⟩, ?_⟩
    rintro ⟨i, out, _⟩ ⟨⟩ _ ⟨i0, i1, ho⟩
    simp only at i0 i1 ho ⊢
    refine ⟨fun hlt => ?_, fun hge => ?_⟩
    . have hc := bys_get hb i.toNat
      obtain ⟨q1, q2, _⟩ := byte_parts hc
      have hlen := hex_len (s.take i.toNat)
      rw [List.length_take] at hlen
      have hst := hex_step hb (i := i.toNat) (by omega)
      have t1 : IntKind.i64.wrap (s.getD i.toNat 0) = s.getD i.toNat 0 := wrapK _ (by omega) (by omega)
      have t2 : (s.getD i.toNat 0).tdiv 16 = s.getD i.toNat 0 / 16 := Int.tdiv_eq_ediv_of_nonneg hc.1
      have t3 : (s.getD i.toNat 0).tmod 16 = s.getD i.toNat 0 % 16 := Int.tmod_eq_emod_of_nonneg hc.1
      have t4 : IntKind.i64.wrap (s.getD i.toNat 0 / 16) = s.getD i.toNat 0 / 16 := wrapK _ (by omega) (by omega)
      rw [t1, t2, t3, t4, wrapK (i + 1) (by omega) (by omega)]
      have tl : 0 ≤ i + 1 ∧ i + 1 ≤ (s.length : Int) ∧ out ++ [digs.getD (s.getD i.toNat 0 / 16).toNat 0, digs.getD (s.getD i.toNat 0 % 16).toNat 0] = [105, 112, 58] ++ hexD (List.take (i + 1).toNat s) := by
        refine ⟨by omega, by omega, ?_⟩
        rw [show (i + 1).toNat = i.toNat + 1 by omega, hst, ho, List.append_assoc]
      have ol : out.length + (1 + 1) ≤ 9223372036854775807 := by rw [ho]; simp [hlen]; omega
      have ms : ((s.length : Int) - (i + 1)).toNat < ((s.length : Int) - i).toNat := by omega
      have g1 : 0 ≤ s.getD i.toNat 0 / 16 ∧ s.getD i.toNat 0 / 16 < ((16 : Nat) : Int) := ⟨by omega, by omega⟩
      have g2 : 0 ≤ s.getD i.toNat 0 % 16 ∧ s.getD i.toNat 0 % 16 < ((16 : Nat) : Int) := ⟨by omega, by omega⟩
      have n16 : ¬ (16 : Int) = 0 := by decide
      repeat' first
        | exact n16
        | exact ⟨i0, hlt⟩
        | exact g1
        | exact g2
        | exact tl
        | exact ol
        | exact ms
        | refine ⟨?_, ?_⟩
    . rw [hS, ho, List.take_of_length_le (by omega)]; rfl
theorem h7 : c_r13_Show.ok Tryz.prog GL 7 := con_ok (H := {}) (mkEnv_ok (gl := GL) (l := [(9, conSem c_r13_May), (17, conSem c_r12_Decode), (18, conSem c_r12_Text)]) (q := []) (d := []) _ tyOk (by kernel_rfl) ⟨h9.call, h17.call, h18.call, trivial⟩ trivial trivial) (by kernel_rfl) (by kernel_rfl) (Eq.mp e7 k7)
def t37 : Prop :=
  ∀ (x : q1), (q110 x) -> True -> True /\ (∀ (y : q4), (q49 y) -> y.1 = digitD x.1 -> (y.1 = true -> wrZ (wrZ x.1 - q262) = hxV x.1) /\ (y.1 = false -> (q109 x) /\ (q104 x) /\ (q106 x) /\
  ((bif decide ((97 : Int) <= x.1) then decide (x.1 <= (102 : Int)) else false) = true -> wrZ (wrZ (wrZ x.1 - (97 : Int)) + (10 : Int)) = hxV x.1) /\ ((bif decide ((97 : Int) <= x.1) then
  decide (x.1 <= (102 : Int)) else false) = false -> (-1 : Int) = hxV x.1))) /\ True
theorem e37 : t37 = Con.vc c_r13_value GL (mkEnv ty [(52, conSem c_r13_digit)] [] [] [0, 2, 4, 13]) {} Tryz.f37.ntmps Tryz.f37.results.toList (bodyOf Tryz.f37) := by kernel_rfl
theorem k37 : t37 := by
  unfold t37
  delta q1 q110 q4 q49 wrZ q262 q109 q104 q106 q522 wbZ
  rintro ⟨c, _⟩ hx hp
  have hc : 0 ≤ c ∧ c ≤ 255 := inr_u8.1 hx.1
  try dsimp +instances only [dft_int, dft_sl, dft_str]
  simp only [true_and, and_true, eq_self_iff_true, implies_true, reduceCtorEq, false_implies, true_implies, decide_eq_true_eq, decide_eq_false_iff_not, beq_self_eq_true, Bool.not_eq_true', ne_eq, Decidable.not_not, List.nil_append, List.length_singleton, List.length_cons, List.length_nil, Nat.zero_add, Nat.add_zero, Nat.mul_one, and_self, beq_iff_eq, Bool.not_true, Bool.not_false, Bool.not_eq_false', Bool.cond_false_right, Bool.and_eq_true, imp_self, Bool.not_eq_true, Bool.cond_true_left, Bool.or_eq_true]
  have w1 : IntKind.i64.wrap c = c := wrapK _ (by omega) (by omega)
  have w2 : IntKind.i64.wrap (c - 48) = c - 48 := wrapK _ (by omega) (by omega)
  have w3 : IntKind.i64.wrap (c - 97) = c - 97 := wrapK _ (by omega) (by omega)
  have w4 : IntKind.i64.wrap (c - 97 + 10) = c - 97 + 10 := wrapK _ (by omega) (by omega)
  rw [w1, w2, w3, w4]
  rintro ⟨d, _⟩ _ ed
  simp only at ed ⊢
  subst ed
  unfold hxV
  refine ⟨fun h => ?_, fun h => ⟨fun h2 => ?_, fun h2 => ?_⟩⟩
  . have h := of_decide_eq_true h
    rw [if_pos h]
  . have h := of_decide_eq_false h
    rw [if_neg h, if_pos h2]; omega
  . have h := of_decide_eq_false h
    rw [Bool.and_eq_false_iff, decide_eq_false_iff_not, decide_eq_false_iff_not] at h2
    rw [if_neg h, if_neg (by omega)]
theorem h37 : c_r13_value.ok Tryz.prog GL 37 := con_ok (H := {}) (mkEnv_ok (gl := GL) (l := [(52, conSem c_r13_digit)]) (q := []) (d := []) _ tyOk (by kernel_rfl) ⟨h52.call, trivial⟩ trivial trivial) (by kernel_rfl) (by kernel_rfl) (Eq.mp e37 k37)
def t34 : Prop :=
  ∀ (x : q2), (q37 x) -> List.length x.1 <= q175 -> (decide (q384 x) = false -> True) /\ (decide (q384 x) = false -> True) /\ (decide (q384 x) = false -> (q383 x) = true /\ True) /\ (decide
  (q384 x) = false -> (q383 x) = true /\ (q383 x) = true /\ (q48 x) /\ True) /\ (decide (q384 x) = false -> True) /\ (decide (q384 x) = false -> (q383 x) = true /\ (q383 x) = true /\ True) /\
  (decide (q384 x) = false -> (q383 x) = true) /\ ((q382 x) = true -> (bs { data := #[] }, false) = if hasP x.2.1 x.1 = true then (List.drop (List.length x.2.1) x.1, true) else ([], false))
  /\ ((q382 x) = false -> (q48 x) /\ (List.drop (Int.toNat (lnZ x.2.1)) x.1, true) = if hasP x.2.1 x.1 = true then (List.drop (List.length x.2.1) x.1, true) else ([], false))
theorem e34 : t34 = Con.vc c_r13_rest GL (mkEnv ty [] [] [] [0, 1, 4, 5, 18]) {} Tryz.f34.ntmps Tryz.f34.results.toList (bodyOf Tryz.f34) := by kernel_rfl
theorem k34 : t34 := by
  unfold t34
  delta q2 q37 q175 q384 q383 q48 q382 lnZ wsZ q421
  rintro ⟨s, h, _⟩ hx hp
  try dsimp +instances only [dft_int, dft_sl, dft_str]
  simp only [true_and, and_true, eq_self_iff_true, implies_true, reduceCtorEq, false_implies, true_implies, decide_eq_true_eq, decide_eq_false_iff_not, beq_self_eq_true, Bool.not_eq_true', ne_eq, Decidable.not_not, List.nil_append, List.length_singleton, List.length_cons, List.length_nil, Nat.zero_add, Nat.add_zero, Nat.mul_one, and_self, beq_iff_eq, Bool.not_true, Bool.not_false, Bool.not_eq_false', Bool.cond_false_right, Bool.and_eq_true, imp_self, Bool.not_eq_true, Bool.cond_true_left, Bool.or_eq_true]
  have e : ((h.length : Nat) : Int).toNat = h.length := Int.toNat_natCast _
  rw [e]
  refine ⟨fun h1 => ⟨h1, h1, by omega, by omega⟩, fun h1 => ?_, fun h1 => ?_⟩
  . have : hasP h s = false := by
      rw [hasP, decide_eq_false_iff_not]
      intro h2
      rcases h1 with h1 | h1
      . have := congrArg List.length h2
        simp at this
        omega
      . exact h1 h2
    rw [this]; rfl
  . rw [Bool.or_eq_false_iff, decide_eq_false_iff_not] at h1
    have h2 : List.take h.length s = h := Classical.not_not.1 (of_decide_eq_false h1.2)
    have : hasP h s = true := by rw [hasP, decide_eq_true_eq]; exact h2
    exact ⟨⟨by omega, by omega⟩, by rw [this]; rfl⟩
theorem h34 : c_r13_rest.ok Tryz.prog GL 34 := con_ok (H := {}) (mkEnv_ok (gl := GL) (l := []) (q := []) (d := []) _ tyOk (by kernel_rfl) trivial trivial trivial) (by kernel_rfl) (by kernel_rfl) (Eq.mp e34 k34)
def t12 : Prop :=
  ∀ (x : q6), (q71 x) -> List.length x.1 <= q183 -> q76 <= q72 /\ q76 <= q72 /\ List.length x.1 <= q175 /\ (∀ (y : q5), (q50 y) -> ((y.1, y.2.1) = if hasP q386 x.1 = true then (List.drop
  (List.length q386) x.1, true) else ([], false)) -> ∃ (J : q31), ((y.2.1 = true -> y.2.1 = y.2.1 /\ y.1 = y.1 /\ q40 = q40 /\ x.1 = x.1 /\ J () ((q40, bs { data := #[] }, ()), (q75, y.1,
  ()), ())) /\ (y.2.1 = false -> y.2.1 = y.2.1 /\ y.1 = y.1 /\ q40 = q40 /\ x.1 = x.1 /\ J () ((q40, bs { data := #[] }, ()), (q40, bs { data := #[] }, ()), ()))) /\ ∀ (u : Unit) (z : q32),
  True -> (wiZ z.1.1 /\ wsZ z.1.2.1 /\ True) /\ (wiZ z.2.1.1 /\ wsZ z.2.1.2.1 /\ True) /\ True -> J u z -> List.length x.1 <= q175 /\ (∀ (y : q5), (q50 y) -> ((y.1, y.2.1) = if hasP (bs {
  data := #[(100 : UInt8), (110 : UInt8), (115 : UInt8), q124] }) x.1 = true then (List.drop (List.length (bs { data := #[(100 : UInt8), (110 : UInt8), (115 : UInt8), q124] })) x.1, true)
  else ([], false)) -> ∃ (J : q31), ((y.2.1 = true -> y.2.1 = y.2.1 /\ y.1 = y.1 /\ q40 = q40 /\ x.1 = x.1 /\ J () ((z.1.1, z.1.2.1, ()), (q77, y.1, ()), ())) /\ (q385 y x J z)) /\ ∀ (u :
  Unit) (z : q32), True -> (wiZ z.1.1 /\ wsZ z.1.2.1 /\ True) /\ (wiZ z.2.1.1 /\ wsZ z.2.1.2.1 /\ True) /\ True -> J u z -> List.length x.1 <= q175 /\ (∀ (y : q5), (q50 y) -> ((y.1, y.2.1) =
  if hasP q388 x.1 = true then (List.drop (List.length q388) x.1, true) else ([], false)) -> ∃ (J : q31), ((y.2.1 = true -> List.length y.1 <= q183 /\ (∀ (y_1 : q27), (q365 y_1) -> parN y.1
  y_1.1 y_1.2.1 = true -> (List.length y_1.1 <= q88 /\ ∀ (a : q17), a ∈ y_1.1 -> List.length a.2 <= q175) /\ (∀ (y_2 : q0), (q244 y_2) -> (y_2.1, y_2.2.1) = EncN y_1.1 -> (decide (y_1.2.1 =
  q40) = true -> y.2.1 = y.2.1 /\ y.1 = y.1 /\ q40 = q40 /\ x.1 = x.1 /\ J () ((z.1.1, z.1.2.1, ()), ((4 : Int), y_2.1, ()), ())) /\ (decide (y_1.2.1 = q40) = false -> y.2.1 = y.2.1 /\ y.1 =
  y.1 /\ q40 = q40 /\ x.1 = x.1 /\ J () ((z.1.1, z.1.2.1, ()), (z.2.1.1, z.2.1.2.1, ()), ()))) /\ True) /\ True) /\ (q385 y x J z)) /\ ∀ (u : Unit) (z : q32), True -> (wiZ z.1.1 /\ wsZ
  z.1.2.1 /\ True) /\ (wiZ z.2.1.1 /\ wsZ z.2.1.2.1 /\ True) /\ True -> J u z -> List.length x.1 <= q175 /\ (∀ (y : q5), (q50 y) -> ((y.1, y.2.1) = if hasP (bs { data := #[(105 : UInt8), (112
  : UInt8), q124] }) x.1 = true then (List.drop (List.length (bs { data := #[(105 : UInt8), (112 : UInt8), q124] })) x.1, true) else ([], false)) -> ∃ (J : q31), ((y.2.1 = true -> ∃ (I : Int
  × Unit -> Unit × Unit × List Int × Unit -> Prop), ∃ (μ : Int × Unit -> Unit × Unit × List Int × Unit -> Nat), (Value.bool true = Value.bool true /\ y.2.1 = y.2.1 /\ y.1 = y.1 /\ q40 = q40
  /\ x.1 = x.1 /\ z.1.1 = z.1.1 /\ z.1.2.1 = z.1.2.1 /\ z.2.1.1 = z.2.1.1 /\ z.2.1.2.1 = z.2.1.2.1 /\ I (q40, ()) ((), (), [], ())) /\ ∀ (y_1 : q1) (z_1 : Unit × Unit × List Int × Unit), (q36
  y_1) -> True /\ True /\ (wyZ z_1.2.2.1 /\ True) -> I y_1 z_1 -> (decide (wrZ (q249 y_1) < (lnZ y.1)) = true -> ((q40 <= y_1.1 /\ y_1.1 < (lnZ y.1)) /\ (True /\ (∀ (y_2 : q1), (q36 y_2) ->
  y_2.1 = hxV (q391 y y_1) -> ((((q389 y_1 y) /\ (True /\ (∀ (y_3 : q1), (q36 y_3) -> y_3.1 = hxV (q390 y y_1) -> ((((q74 < q42 /\ (q387 z_1 y_2 y_3) * q42 <= q158 /\ List.length z_1.2.2.1 +
  List.length [IntKind.wrap IntKind.u8 (q392 y_2 y_3)] <= q157 /\ Value.bool true = Value.bool true /\ y.2.1 = y.2.1 /\ y.1 = y.1 /\ q40 = q40 /\ x.1 = x.1 /\ z.1.1 = z.1.1 /\ z.1.2.1 =
  z.1.2.1 /\ z.2.1.1 = z.2.1.1 /\ z.2.1.2.1 = z.2.1.2.1 /\ I (wrZ (q393 y_1), ()) ((), (), z_1.2.2.1 ++ [IntKind.wrap IntKind.u8 (q392 y_2 y_3)], ()) /\ μ (wrZ (q393 y_1), ()) ((), (),
  z_1.2.2.1 ++ [IntKind.wrap IntKind.u8 (q392 y_2 y_3)], ()) < μ y_1 z_1) /\ True) /\ True) /\ True) /\ True) /\ True) /\ True) /\ True) /\ True) /\ ((((q389 y_1 y) /\ (True /\ (∀ (y_3 : q1),
  (q36 y_3) -> y_3.1 = hxV (q390 y y_1) -> ((((q74 < q42 /\ (q387 z_1 y_2 y_3) * q42 <= q158 /\ List.length z_1.2.2.1 + List.length [IntKind.wrap IntKind.u8 (q392 y_2 y_3)] <= q157 /\
  Value.bool true = Value.bool true /\ y.2.1 = y.2.1 /\ y.1 = y.1 /\ q40 = q40 /\ x.1 = x.1 /\ z.1.1 = z.1.1 /\ z.1.2.1 = z.1.2.1 /\ z.2.1.1 = z.2.1.1 /\ z.2.1.2.1 = z.2.1.2.1 /\ I (wrZ (q393
  y_1), ()) ((), (), z_1.2.2.1 ++ [IntKind.wrap IntKind.u8 (q392 y_2 y_3)], ()) /\ μ (wrZ (q393 y_1), ()) ((), (), z_1.2.2.1 ++ [IntKind.wrap IntKind.u8 (q392 y_2 y_3)], ()) < μ y_1 z_1) /\
  True) /\ True) /\ True) /\ True) /\ True) /\ True) /\ True) /\ ((q389 y_1 y) /\ ((True /\ (∀ (y_3 : q1), (q36 y_3) -> y_3.1 = hxV (q390 y y_1) -> ((((q74 < q42 /\ (q387 z_1 y_2 y_3) * q42
  <= q158 /\ List.length z_1.2.2.1 + List.length [IntKind.wrap IntKind.u8 (q392 y_2 y_3)] <= q157 /\ Value.bool true = Value.bool true /\ y.2.1 = y.2.1 /\ y.1 = y.1 /\ q40 = q40 /\ x.1 = x.1
  /\ z.1.1 = z.1.1 /\ z.1.2.1 = z.1.2.1 /\ z.2.1.1 = z.2.1.1 /\ z.2.1.2.1 = z.2.1.2.1 /\ I (wrZ (q393 y_1), ()) ((), (), z_1.2.2.1 ++ [IntKind.wrap IntKind.u8 (q392 y_2 y_3)], ()) /\ μ (wrZ
  (q393 y_1), ()) ((), (), z_1.2.2.1 ++ [IntKind.wrap IntKind.u8 (q392 y_2 y_3)], ()) < μ y_1 z_1) /\ True) /\ True) /\ True) /\ True) /\ True) /\ True) /\ (True /\ (∀ (y_3 : q1), (q36 y_3)
  -> y_3.1 = hxV (q390 y y_1) -> (((((q74 < q42 /\ (q387 z_1 y_2 y_3) * q42 <= q158 /\ List.length z_1.2.2.1 + List.length [IntKind.wrap IntKind.u8 (q392 y_2 y_3)] <= q157 /\ Value.bool true
  = Value.bool true /\ y.2.1 = y.2.1 /\ y.1 = y.1 /\ q40 = q40 /\ x.1 = x.1 /\ z.1.1 = z.1.1 /\ z.1.2.1 = z.1.2.1 /\ z.2.1.1 = z.2.1.1 /\ z.2.1.2.1 = z.2.1.2.1 /\ I (wrZ (q393 y_1), ()) ((),
  (), z_1.2.2.1 ++ [IntKind.wrap IntKind.u8 (q392 y_2 y_3)], ()) /\ μ (wrZ (q393 y_1), ()) ((), (), z_1.2.2.1 ++ [IntKind.wrap IntKind.u8 (q392 y_2 y_3)], ()) < μ y_1 z_1) /\ True) /\ True)
  /\ True) /\ True) /\ True) /\ True) /\ True) /\ True) /\ True) /\ True) /\ ((True /\ (∀ (y_2 : q1), (q36 y_2) -> y_2.1 = hxV (q391 y y_1) -> (((q389 y_1 y) /\ (True /\ (∀ (y_3 : q1), (q36
  y_3) -> y_3.1 = hxV (q390 y y_1) -> ((((q74 < q42 /\ (q387 z_1 y_2 y_3) * q42 <= q158 /\ List.length z_1.2.2.1 + List.length [IntKind.wrap IntKind.u8 (q392 y_2 y_3)] <= q157 /\ Value.bool
  true = Value.bool true /\ y.2.1 = y.2.1 /\ y.1 = y.1 /\ q40 = q40 /\ x.1 = x.1 /\ z.1.1 = z.1.1 /\ z.1.2.1 = z.1.2.1 /\ z.2.1.1 = z.2.1.1 /\ z.2.1.2.1 = z.2.1.2.1 /\ I (wrZ (q393 y_1), ())
  ((), (), z_1.2.2.1 ++ [IntKind.wrap IntKind.u8 (q392 y_2 y_3)], ()) /\ μ (wrZ (q393 y_1), ()) ((), (), z_1.2.2.1 ++ [IntKind.wrap IntKind.u8 (q392 y_2 y_3)], ()) < μ y_1 z_1) /\ True) /\
  True) /\ True) /\ True) /\ True) /\ True) /\ True) /\ ((q389 y_1 y) /\ ((True /\ (∀ (y_3 : q1), (q36 y_3) -> y_3.1 = hxV (q390 y y_1) -> ((((q74 < q42 /\ (q387 z_1 y_2 y_3) * q42 <= q158 /\
  List.length z_1.2.2.1 + List.length [IntKind.wrap IntKind.u8 (q392 y_2 y_3)] <= q157 /\ Value.bool true = Value.bool true /\ y.2.1 = y.2.1 /\ y.1 = y.1 /\ q40 = q40 /\ x.1 = x.1 /\ z.1.1 =
  z.1.1 /\ z.1.2.1 = z.1.2.1 /\ z.2.1.1 = z.2.1.1 /\ z.2.1.2.1 = z.2.1.2.1 /\ I (wrZ (q393 y_1), ()) ((), (), z_1.2.2.1 ++ [IntKind.wrap IntKind.u8 (q392 y_2 y_3)], ()) /\ μ (wrZ (q393 y_1),
  ()) ((), (), z_1.2.2.1 ++ [IntKind.wrap IntKind.u8 (q392 y_2 y_3)], ()) < μ y_1 z_1) /\ True) /\ True) /\ True) /\ True) /\ True) /\ True) /\ (True /\ (∀ (y_3 : q1), (q36 y_3) -> y_3.1 =
  hxV (q390 y y_1) -> (((((q74 < q42 /\ (q387 z_1 y_2 y_3) * q42 <= q158 /\ List.length z_1.2.2.1 + List.length [IntKind.wrap IntKind.u8 (q392 y_2 y_3)] <= q157 /\ Value.bool true =
  Value.bool true /\ y.2.1 = y.2.1 /\ y.1 = y.1 /\ q40 = q40 /\ x.1 = x.1 /\ z.1.1 = z.1.1 /\ z.1.2.1 = z.1.2.1 /\ z.2.1.1 = z.2.1.1 /\ z.2.1.2.1 = z.2.1.2.1 /\ I (wrZ (q393 y_1), ()) ((),
  (), z_1.2.2.1 ++ [IntKind.wrap IntKind.u8 (q392 y_2 y_3)], ()) /\ μ (wrZ (q393 y_1), ()) ((), (), z_1.2.2.1 ++ [IntKind.wrap IntKind.u8 (q392 y_2 y_3)], ()) < μ y_1 z_1) /\ True) /\ True)
  /\ True) /\ True) /\ True) /\ True) /\ True) /\ True) /\ True) /\ ((q389 y_1 y) /\ (True /\ (∀ (y_2 : q1), (q36 y_2) -> y_2.1 = hxV (q391 y y_1) -> ((True /\ (∀ (y_3 : q1), (q36 y_3) ->
  y_3.1 = hxV (q390 y y_1) -> ((((q74 < q42 /\ (q387 z_1 y_2 y_3) * q42 <= q158 /\ List.length z_1.2.2.1 + List.length [IntKind.wrap IntKind.u8 (q392 y_2 y_3)] <= q157 /\ Value.bool true =
  Value.bool true /\ y.2.1 = y.2.1 /\ y.1 = y.1 /\ q40 = q40 /\ x.1 = x.1 /\ z.1.1 = z.1.1 /\ z.1.2.1 = z.1.2.1 /\ z.2.1.1 = z.2.1.1 /\ z.2.1.2.1 = z.2.1.2.1 /\ I (wrZ (q393 y_1), ()) ((),
  (), z_1.2.2.1 ++ [IntKind.wrap IntKind.u8 (q392 y_2 y_3)], ()) /\ μ (wrZ (q393 y_1), ()) ((), (), z_1.2.2.1 ++ [IntKind.wrap IntKind.u8 (q392 y_2 y_3)], ()) < μ y_1 z_1) /\ True) /\ True)
  /\ True) /\ True) /\ True) /\ True) /\ (True /\ (∀ (y_3 : q1), (q36 y_3) -> y_3.1 = hxV (q390 y y_1) -> (((((q74 < q42 /\ (q387 z_1 y_2 y_3) * q42 <= q158 /\ List.length z_1.2.2.1 +
  List.length [IntKind.wrap IntKind.u8 (q392 y_2 y_3)] <= q157 /\ Value.bool true = Value.bool true /\ y.2.1 = y.2.1 /\ y.1 = y.1 /\ q40 = q40 /\ x.1 = x.1 /\ z.1.1 = z.1.1 /\ z.1.2.1 =
  z.1.2.1 /\ z.2.1.1 = z.2.1.1 /\ z.2.1.2.1 = z.2.1.2.1 /\ I (wrZ (q393 y_1), ()) ((), (), z_1.2.2.1 ++ [IntKind.wrap IntKind.u8 (q392 y_2 y_3)], ()) /\ μ (wrZ (q393 y_1), ()) ((), (),
  z_1.2.2.1 ++ [IntKind.wrap IntKind.u8 (q392 y_2 y_3)], ()) < μ y_1 z_1) /\ True) /\ True) /\ True) /\ True) /\ True) /\ True) /\ True) /\ True) /\ True) /\ True) /\ True) /\ (((q40 <= y_1.1
  /\ y_1.1 < (lnZ y.1)) /\ (True /\ (∀ (y_2 : q1), (q36 y_2) -> y_2.1 = hxV (q391 y y_1) -> (((q389 y_1 y) /\ (True /\ (∀ (y_3 : q1), (q36 y_3) -> y_3.1 = hxV (q390 y y_1) -> ((((q74 < q42 /\
  (q387 z_1 y_2 y_3) * q42 <= q158 /\ List.length z_1.2.2.1 + List.length [IntKind.wrap IntKind.u8 (q392 y_2 y_3)] <= q157 /\ Value.bool true = Value.bool true /\ y.2.1 = y.2.1 /\ y.1 = y.1
  /\ q40 = q40 /\ x.1 = x.1 /\ z.1.1 = z.1.1 /\ z.1.2.1 = z.1.2.1 /\ z.2.1.1 = z.2.1.1 /\ z.2.1.2.1 = z.2.1.2.1 /\ I (wrZ (q393 y_1), ()) ((), (), z_1.2.2.1 ++ [IntKind.wrap IntKind.u8 (q392
  y_2 y_3)], ()) /\ μ (wrZ (q393 y_1), ()) ((), (), z_1.2.2.1 ++ [IntKind.wrap IntKind.u8 (q392 y_2 y_3)], ()) < μ y_1 z_1) /\ True) /\ True) /\ True) /\ True) /\ True) /\ True) /\ True) /\
  ((q389 y_1 y) /\ ((True /\ (∀ (y_3 : q1), (q36 y_3) -> y_3.1 = hxV (q390 y y_1) -> ((((q74 < q42 /\ (q387 z_1 y_2 y_3) * q42 <= q158 /\ List.length z_1.2.2.1 + List.length [IntKind.wrap
  IntKind.u8 (q392 y_2 y_3)] <= q157 /\ Value.bool true = Value.bool true /\ y.2.1 = y.2.1 /\ y.1 = y.1 /\ q40 = q40 /\ x.1 = x.1 /\ z.1.1 = z.1.1 /\ z.1.2.1 = z.1.2.1 /\ z.2.1.1 = z.2.1.1 /\
  z.2.1.2.1 = z.2.1.2.1 /\ I (wrZ (q393 y_1), ()) ((), (), z_1.2.2.1 ++ [IntKind.wrap IntKind.u8 (q392 y_2 y_3)], ()) /\ μ (wrZ (q393 y_1), ()) ((), (), z_1.2.2.1 ++ [IntKind.wrap IntKind.u8
  (q392 y_2 y_3)], ()) < μ y_1 z_1) /\ True) /\ True) /\ True) /\ True) /\ True) /\ True) /\ (True /\ (∀ (y_3 : q1), (q36 y_3) -> y_3.1 = hxV (q390 y y_1) -> (((((q74 < q42 /\ (q387 z_1 y_2
  y_3) * q42 <= q158 /\ List.length z_1.2.2.1 + List.length [IntKind.wrap IntKind.u8 (q392 y_2 y_3)] <= q157 /\ Value.bool true = Value.bool true /\ y.2.1 = y.2.1 /\ y.1 = y.1 /\ q40 = q40 /\
  x.1 = x.1 /\ z.1.1 = z.1.1 /\ z.1.2.1 = z.1.2.1 /\ z.2.1.1 = z.2.1.1 /\ z.2.1.2.1 = z.2.1.2.1 /\ I (wrZ (q393 y_1), ()) ((), (), z_1.2.2.1 ++ [IntKind.wrap IntKind.u8 (q392 y_2 y_3)], ())
  /\ μ (wrZ (q393 y_1), ()) ((), (), z_1.2.2.1 ++ [IntKind.wrap IntKind.u8 (q392 y_2 y_3)], ()) < μ y_1 z_1) /\ True) /\ True) /\ True) /\ True) /\ True) /\ True) /\ True) /\ True) /\ True)
  /\ ((q389 y_1 y) /\ (True /\ (∀ (y_2 : q1), (q36 y_2) -> y_2.1 = hxV (q391 y y_1) -> ((True /\ (∀ (y_3 : q1), (q36 y_3) -> y_3.1 = hxV (q390 y y_1) -> ((((q74 < q42 /\ (q387 z_1 y_2 y_3) *
  q42 <= q158 /\ List.length z_1.2.2.1 + List.length [IntKind.wrap IntKind.u8 (q392 y_2 y_3)] <= q157 /\ Value.bool true = Value.bool true /\ y.2.1 = y.2.1 /\ y.1 = y.1 /\ q40 = q40 /\ x.1 =
  x.1 /\ z.1.1 = z.1.1 /\ z.1.2.1 = z.1.2.1 /\ z.2.1.1 = z.2.1.1 /\ z.2.1.2.1 = z.2.1.2.1 /\ I (wrZ (q393 y_1), ()) ((), (), z_1.2.2.1 ++ [IntKind.wrap IntKind.u8 (q392 y_2 y_3)], ()) /\ μ
  (wrZ (q393 y_1), ()) ((), (), z_1.2.2.1 ++ [IntKind.wrap IntKind.u8 (q392 y_2 y_3)], ()) < μ y_1 z_1) /\ True) /\ True) /\ True) /\ True) /\ True) /\ True) /\ (True /\ (∀ (y_3 : q1), (q36
  y_3) -> y_3.1 = hxV (q390 y y_1) -> (((((q74 < q42 /\ (q387 z_1 y_2 y_3) * q42 <= q158 /\ List.length z_1.2.2.1 + List.length [IntKind.wrap IntKind.u8 (q392 y_2 y_3)] <= q157 /\ Value.bool
  true = Value.bool true /\ y.2.1 = y.2.1 /\ y.1 = y.1 /\ q40 = q40 /\ x.1 = x.1 /\ z.1.1 = z.1.1 /\ z.1.2.1 = z.1.2.1 /\ z.2.1.1 = z.2.1.1 /\ z.2.1.2.1 = z.2.1.2.1 /\ I (wrZ (q393 y_1), ())
  ((), (), z_1.2.2.1 ++ [IntKind.wrap IntKind.u8 (q392 y_2 y_3)], ()) /\ μ (wrZ (q393 y_1), ()) ((), (), z_1.2.2.1 ++ [IntKind.wrap IntKind.u8 (q392 y_2 y_3)], ()) < μ y_1 z_1) /\ True) /\
  True) /\ True) /\ True) /\ True) /\ True) /\ True) /\ True) /\ True) /\ True) /\ ((q389 y_1 y) /\ ((q40 <= y_1.1 /\ y_1.1 < (lnZ y.1)) /\ (True /\ (∀ (y_2 : q1), (q36 y_2) -> y_2.1 = hxV
  (q391 y y_1) -> ((True /\ (∀ (y_3 : q1), (q36 y_3) -> y_3.1 = hxV (q390 y y_1) -> ((((q74 < q42 /\ (q387 z_1 y_2 y_3) * q42 <= q158 /\ List.length z_1.2.2.1 + List.length [IntKind.wrap
  IntKind.u8 (q392 y_2 y_3)] <= q157 /\ Value.bool true = Value.bool true /\ y.2.1 = y.2.1 /\ y.1 = y.1 /\ q40 = q40 /\ x.1 = x.1 /\ z.1.1 = z.1.1 /\ z.1.2.1 = z.1.2.1 /\ z.2.1.1 = z.2.1.1 /\
  z.2.1.2.1 = z.2.1.2.1 /\ I (wrZ (q393 y_1), ()) ((), (), z_1.2.2.1 ++ [IntKind.wrap IntKind.u8 (q392 y_2 y_3)], ()) /\ μ (wrZ (q393 y_1), ()) ((), (), z_1.2.2.1 ++ [IntKind.wrap IntKind.u8
  (q392 y_2 y_3)], ()) < μ y_1 z_1) /\ True) /\ True) /\ True) /\ True) /\ True) /\ True) /\ (True /\ (∀ (y_3 : q1), (q36 y_3) -> y_3.1 = hxV (q390 y y_1) -> (((((q74 < q42 /\ (q387 z_1 y_2
  y_3) * q42 <= q158 /\ List.length z_1.2.2.1 + List.length [IntKind.wrap IntKind.u8 (q392 y_2 y_3)] <= q157 /\ Value.bool true = Value.bool true /\ y.2.1 = y.2.1 /\ y.1 = y.1 /\ q40 = q40 /\
  x.1 = x.1 /\ z.1.1 = z.1.1 /\ z.1.2.1 = z.1.2.1 /\ z.2.1.1 = z.2.1.1 /\ z.2.1.2.1 = z.2.1.2.1 /\ I (wrZ (q393 y_1), ()) ((), (), z_1.2.2.1 ++ [IntKind.wrap IntKind.u8 (q392 y_2 y_3)], ())
  /\ μ (wrZ (q393 y_1), ()) ((), (), z_1.2.2.1 ++ [IntKind.wrap IntKind.u8 (q392 y_2 y_3)], ()) < μ y_1 z_1) /\ True) /\ True) /\ True) /\ True) /\ True) /\ True) /\ True) /\ True) /\ True)
  /\ True) /\ True) /\ True) /\ (decide (wrZ (q249 y_1) < (lnZ y.1)) = false -> y.2.1 = y.2.1 /\ y.1 = y.1 /\ q40 = q40 /\ x.1 = x.1 /\ J () ((z.1.1, z.1.2.1, ()), ((7 : Int), z_1.2.2.1, ()),
  ()))) /\ (q385 y x J z)) /\ ∀ (u : Unit) (z : q32), True -> (wiZ z.1.1 /\ wsZ z.1.2.1 /\ True) /\ (wiZ z.2.1.1 /\ wsZ z.2.1.2.1 /\ True) /\ True -> J u z -> List.length z.2.1.2.1 <= q183 /\
  (∀ (y : q0), (q98 y) -> (y.1, y.2.1) = ShowG z.2.1.1 z.2.1.2.1 -> (q282 y) /\ (q282 y) /\ (q278 y) /\ (q280 y) /\ ((q281 y x) = true -> parG x.1 q40 (bs { data := #[] }) (130 : Int) = true)
  /\ ((q281 y x) = false -> parG x.1 z.2.1.1 z.2.1.2.1 q40 = true)) /\ True) /\ True) /\ True) /\ True) /\ True
theorem e12 : t12 = Con.vc c_r13_Parse GL (mkEnv ty [(34, conSem c_r13_rest), (35, conSem c_r12_Parse), (36, conSem c_r12_Encode), (37, conSem c_r13_value), (7, conSem c_r13_Show)] [] [] [0, 2, 3, 4, 5, 6, 7, 8, 9, 11, 12, 13, 14, 20, 28, 36, 48, 57, 62, 94]) {joins := [5,8,14,22]} Tryz.f12.ntmps Tryz.f12.results.toList (bodyOf Tryz.f12) := by kernel_rfl
theorem k12 : t12 := by
  unfold t12
  delta q6 q71 q183 q76 q72 q175 q5 q50 q386 q31 q40 q75 q32 wiZ wsZ q124 q77 q385 q388 q27 q365 q88 q17 q0 q244 q1 q36 wyZ wrZ q249 lnZ q391 q389 q390 q74 q42 q387 q158 q392 q157 q393 q98 q282 q278 q280 q281 wbZ q563 q461 q421 q484 q458 q411 q528 q423 q445 q473 q541 q529
  rintro ⟨s, _⟩ hx hp
  have hp : s.length ≤ 10000000 := hp
  have hb : Bys s := str_bys hx.1
  try dsimp +instances only [dft_int, dft_sl, dft_str]
  simp only [true_and, and_true, eq_self_iff_true, implies_true, reduceCtorEq, false_implies, true_implies, decide_eq_true_eq, decide_eq_false_iff_not, beq_self_eq_true, Bool.not_eq_true', ne_eq, Decidable.not_not, List.nil_append, List.length_singleton, List.length_cons, List.length_nil, Nat.zero_add, Nat.add_zero, Nat.mul_one, and_self, beq_iff_eq, Bool.not_true, Bool.not_false, Bool.not_eq_false', Bool.cond_false_right, Bool.and_eq_true, imp_self, Bool.not_eq_true, Bool.cond_true_left, Bool.or_eq_true]
  rw [bs_email, bs_dns, bs_name, bs_ip, bs_nil]
  obtain ⟨l1, l2, l4, l7⟩ := hd_len
  have hl9 : s.length ≤ 100000000 := by omega
  have dl : ∀ n : Nat, (s.drop n).length ≤ 10000000 := fun n => by rw [List.length_drop]; omega
  refine ⟨by decide, by decide, hl9, ?_⟩
  rintro ⟨r, ok, _⟩ _ er
  simp only at er ⊢
  refine ⟨fun _ z => stageG s [1] z.2.1.1 z.2.1.2.1, ⟨fun h => ?_, fun h => ?_⟩, ?_⟩
  . subst h
    split at er
    . rename_i hh
      obtain ⟨rfl, _⟩ := Prod.mk.inj er
      exact stage_hit (.inl rfl) hh (bys_drop hb _) (dl _) fun t' _ _ h => body_hit h
    . cases (Prod.mk.inj er).2
  . subst h
    split at er
    . cases (Prod.mk.inj er).2
    . rename_i hh
      exact stage_miss (stage_nil s) (by simpa using hh)
  rintro u ⟨z0, ⟨k, t, _⟩, _⟩ _ h1
  simp only at h1 ⊢
  refine ⟨hl9, ?_⟩
  rintro ⟨r, ok, _⟩ _ er
  simp only at er ⊢
  refine ⟨fun _ z => stageG s [2, 1] z.2.1.1 z.2.1.2.1, ⟨fun h => ?_, fun h => ?_⟩, ?_⟩
  . subst h
    split at er
    . rename_i hh
      obtain ⟨rfl, _⟩ := Prod.mk.inj er
      exact stage_hit (.inr (.inl rfl)) hh (bys_drop hb _) (dl _) fun t' _ _ h => body_hit h
    . cases (Prod.mk.inj er).2
  . subst h
    split at er
    . cases (Prod.mk.inj er).2
    . rename_i hh
      exact stage_miss h1 (by simpa using hh)
  rintro u ⟨z0, ⟨k, t, _⟩, _⟩ _ h2
  simp only at h2 ⊢
  refine ⟨hl9, ?_⟩
  rintro ⟨r, ok, _⟩ _ er
  simp only at er ⊢
  refine ⟨fun _ z => stageG s [4, 2, 1] z.2.1.1 z.2.1.2.1, ⟨fun h => ?_, fun h => ?_⟩, ?_⟩
  . subst h
    split at er
    . rename_i hh
      obtain ⟨rfl, _⟩ := Prod.mk.inj er
      refine ⟨dl _, ?_⟩
      rintro ⟨m, e, _⟩ _ hm
      simp only at hm ⊢
      refine ⟨⟨by have := parN_len hm; omega, fun a ha => ?_⟩, ?_⟩
      . rcases parN_iff.1 hm with ⟨_, h3, _⟩ | ⟨_, rfl, _⟩
        . have := mayA_len ((mayN_args h3).2 a ha); omega
        . cases ha
      rintro ⟨b, f, _⟩ hbw hbe
      simp only at hbe ⊢
      refine ⟨fun h0 => ?_, fun h0 => ?_⟩
      . subst h0
        obtain ⟨hmn, hmt⟩ := parN_ok hm
        rw [EncN, if_pos hmn] at hbe
        obtain ⟨rfl, _⟩ := Prod.mk.inj hbe
        refine stage_hit (.inr (.inr (.inl rfl))) hh (sl_bys hbw.1) (by have := encN_len hmn; omega) fun t' _ h3 h4 => ?_
        have h5 := body_hit h4
        have h6 := named_text (show namedD t' = true from h3)
        have h7 : textN m = textN (guessD t') := hmt.trans h5
        rw [text_inj hmn h6.1 h7, h6.2]
      . refine stage_none h2 fun t' _ h3 h4 => ?_
        have h5 := body_hit h4
        have h6 := named_text (show namedD t' = true from h3)
        rw [h5] at hm
        exact h0 (parN_of h6.1 hm).2
    . cases (Prod.mk.inj er).2
  . subst h
    split at er
    . cases (Prod.mk.inj er).2
    . rename_i hh
      exact stage_miss h2 (by simpa using hh)
  rintro u ⟨z0, ⟨k, t, _⟩, _⟩ _ h3
  simp only at h3 ⊢
  refine ⟨hl9, ?_⟩
  rintro ⟨r, ok, _⟩ hrw er
  simp only at er ⊢
  refine ⟨fun _ z => stageG s [7, 4, 2, 1] z.2.1.1 z.2.1.2.1, ⟨fun h => ?_, fun h => ?_⟩, ?_⟩
  . subst h
    split at er
    case isFalse => cases (Prod.mk.inj er).2
    rename_i hh
    obtain ⟨rfl, _⟩ := Prod.mk.inj er
    have hrb := bys_drop hb (headG 7).length
    have hrl := dl (headG 7).length
    have hread : ∀ t', showG 7 t' = s → hexD t' = s.drop (headG 7).length := fun t' h => (body_hit h).symm
    generalize s.drop (headG 7).length = r at hrb hrl hread
    refine ⟨fun y z => 0 ≤ y.1 ∧ y.1 = 2 * (z.2.2.1 : List Int).length ∧ y.1 ≤ (r.length : Int) + 1 ∧ Bys (z.2.2.1 : List Int) ∧ ∀ t', Bys t' → hexD t' = r → (z.2.2.1 : List Int) = t'.take (z.2.2.1 : List Int).length, fun y _ => ((r.length : Int) + 2 - y.1).toNat, ⟨Int.le_refl 0, rfl, by simp only; omega, fun b hb => (by cases hb), fun t' _ _ => rfl⟩, ?_⟩
    rintro ⟨i, _⟩ ⟨z1, z2, acc, _⟩ _ _ ⟨i0, i1, i2, hab, hacc⟩
    simp only at i0 i1 i2 hab hacc ⊢
    have w1 : IntKind.i64.wrap (i + 1) = i + 1 := wrapK _ (by omega) (by omega)
    have w2 : IntKind.i64.wrap (i + 2) = i + 2 := wrapK _ (by omega) (by omega)
    rw [w1, w2]
    refine ⟨fun hlt => ?_, fun hge => ?_⟩
    . have hi0 : 0 ≤ i ∧ i < (r.length : Int) := ⟨i0, by omega⟩
      have hi1 : 0 ≤ i + 1 ∧ i + 1 < (r.length : Int) := ⟨by omega, hlt⟩
      have e0 : i.toNat = 2 * acc.length := by omega
      have e1 : (i + 1).toNat = 2 * acc.length + 1 := by omega
      have tl : ∀ x y : Int, x = hxV (r.getD i.toNat 0) → y = hxV (r.getD (i + 1).toNat 0) → 0 < 1 ∧ acc.length + 1 ≤ 140737488355328 ∧ acc.length + 1 ≤ 9223372036854775807 ∧
          (0 ≤ i + 2 ∧ i + 2 = 2 * ((acc ++ [IntKind.u8.wrap (IntKind.i64.wrap (IntKind.i64.wrap (16 * x) + y))]).length : Int) ∧ i + 2 ≤ (r.length : Int) + 1 ∧ Bys (acc ++ [IntKind.u8.wrap (IntKind.i64.wrap (IntKind.i64.wrap (16 * x) + y))]) ∧
            ∀ t', Bys t' → hexD t' = r → acc ++ [IntKind.u8.wrap (IntKind.i64.wrap (IntKind.i64.wrap (16 * x) + y))] = t'.take (acc ++ [IntKind.u8.wrap (IntKind.i64.wrap (IntKind.i64.wrap (16 * x) + y))]).length) ∧
          ((r.length : Int) + 2 - (i + 2)).toNat < ((r.length : Int) + 2 - i).toNat := by
        rintro x y rfl rfl
        have r1 := hxV_range (r.getD i.toNat 0)
        have r2 := hxV_range (r.getD (i + 1).toNat 0)
        refine ⟨by decide, by omega, by omega, ⟨by omega, by simp; omega, by omega, bys_app hab fun b hb => ?_, fun t' ht' hr' => ?_⟩, by omega⟩
        . rw [List.mem_singleton.1 hb]; exact wrap_u8_bnd _
        . rw [wrap_u8_hex r1 r2]
          have hq := hex_read (i := acc.length) ht' hr' (by omega)
          rw [e0, e1, hq.1, wrap8 _ (bys_get ht' _).1 (bys_get ht' _).2]
          rw [List.length_append, List.length_singleton, take_snoc t' _ hq.2, ← hacc t' ht' hr']
      repeat' first
        | exact hi0
        | exact hi1
        | (rintro ⟨x, _⟩ _ ex
           refine ⟨hi1, ?_⟩
           rintro ⟨y, _⟩ _ ey
           exact tl x y ex ey)
        | (rintro ⟨x, _⟩ _ ex
           rintro ⟨y, _⟩ _ ey
           exact tl x y ex ey)
        | refine ⟨?_, ?_⟩
    . refine stage_hit (.inr (.inr (.inr rfl))) hh hab (by omega) fun t' ht' h4 h5 => ?_
      have h6 := hread t' h5
      have h7 := hacc t' ht' h6
      have h8 := hex_len t'
      rw [h6] at h8
      rw [h7, List.take_of_length_le (by omega)]
  . subst h
    split at er
    . cases (Prod.mk.inj er).2
    . rename_i hh
      exact stage_miss h3 (by simpa using hh)
  rintro u ⟨z0, ⟨k, t, _⟩, _⟩ _ h4
  simp only at h4 ⊢
  refine ⟨h4.2.1, ?_⟩
  rintro ⟨o, e, _⟩ _ ho
  simp only at ho ⊢
  refine ⟨fun h => ?_, fun h => ?_⟩
  . rcases stage_end h4 with h5 | h5
    . rw [h5] at ho
      obtain ⟨rfl, rfl⟩ := Prod.mk.inj ho
      rcases h with h | h
      . exact absurd rfl h
      . exact absurd rfl h
    . exact h5
  . rw [Bool.or_eq_false_iff] at h
    have a1 := Classical.not_not.1 (of_decide_eq_false h.1)
    have a2 := Classical.not_not.1 (of_decide_eq_false h.2)
    rw [a1, a2] at ho
    exact show_good ho.symm h4.1
theorem h12 : c_r13_Parse.ok Tryz.prog GL 12 := con_ok (H := {joins := [5,8,14,22]}) (mkEnv_ok (gl := GL) (l := [(34, conSem c_r13_rest), (35, conSem c_r12_Parse), (36, conSem c_r12_Encode), (37, conSem c_r13_value), (7, conSem c_r13_Show)]) (q := []) (d := []) _ tyOk (by kernel_rfl) ⟨h34.call, h35.call, h36.call, h37.call, h7.call, trivial⟩ trivial trivial) (by kernel_rfl) (by kernel_rfl) (Eq.mp e12 k12)
end Go.Proofs.YtlpbhgcndebkcaaGreatDoor
end
section
namespace Go.Proofs.YtlpbhgcndebkcaaGreatDoor
open Go Go.Vc Go.Pl Go.Proofs
def c_math_bits_Len64 : Con := { args := [U64].map .dat, res := [I64].map .dat, pre := fun _ => True, post := fun _ _ => True }
def c_math_bits_Len : Con := { args := [.dat U64], res := [.dat I64], pre := fun _ => True, post := fun _ _ => True }
def c_cmp_isNaN_int : Con := { args := [.dat I64], res := [.dat .bool], pre := fun _ => True, post := fun _ y => y.1 = false }
def c_cmp_Less_int : Con := { args := [.dat I64, .dat I64], res := [.dat .bool], pre := fun _ => True, post := fun x y => y.1 = decide (x.1 < x.2.1) }
def c_host_Parse : Con := { args := [.dat .str], res := [.dat GT, .dat I64], pre := fun x => x.1.length ≤ 10000000, post := fun x y => parG x.1 y.1.1 y.1.2 y.2.1 = true }
theorem kindsT_look {k : Int} (h : kindG k) : (lookD ((Kd.fn.pair Kd.str).dft) k kindsT).2 = headG k := by
  rcases h with rfl | rfl | rfl | rfl <;> rfl
end Go.Proofs.YtlpbhgcndebkcaaGreatDoor
end
section
namespace Go.Proofs.YtlpbhgcndebkcaaGreatDoor
open Go Go.Vc Go.Pl Go.Proofs
set_option linter.unusedVariables false
set_option linter.unusedSimpArgs false
set_option maxRecDepth 20000
abbrev q33 := (Int × Unit -> (Int × List Int × Unit) × (List (Int × Nat × List Int) × Unit) × List Int × Unit -> Prop)
abbrev q34 := (Int × Unit -> (Int × List Int × Unit) × (List (Int × Nat × List Int) × Unit) × List Int × Unit -> Nat)
abbrev q35 := ((Int × List Int × Unit) × (List (Int × Nat × List Int) × Unit) × List Int × Unit)
abbrev q394 (p0 : q1) (p1 : q35) := (q421 <= wrZ (p0.1 - q458) /\ wrZ (p0.1 - q458) < (lnZ (List.set p1.2.2.1 (q411 p0) (List.getD p1.2.2.1 (Int.toNat (wrZ (p0.1 - q458))) q470))))
abbrev q395 (p0 : q35) (p1 : q1) := (List.set p0.2.2.1 (q411 p1) (List.getD p0.2.2.1 (Int.toNat (wrZ (p1.1 - q458))) q470))
abbrev q396 (p0 : (Int × List Int × Unit) × List Int × Unit) (p1 : q7) (p2 : q28) := (lookD (Kd.dft (Kd.pair Kd.fn Kd.str)) (List.getD p0.2.1 (Int.toNat p1.1) q470) p2.1)
abbrev q397 (p0 : q28) (p1 : (Int × List Int × Unit) × (List (Int × Nat × List Int) × Unit) × Unit × List Nat × List Int × Unit) (p2 : Nat) := (List.getD p0.1 (List.getLastD (p1.2.2.2.1 ++
  [p2]) q437) (q421, Kd.dft q471))
abbrev q398 (p0 : q1) := (decide (q421 < p0.1) = true -> (decide (q421 < p0.1) == true) = true /\ True)
abbrev q399 (p0 : q35) (p1 : q1) := (List.getD p0.2.2.1 (q411 p1) q470)
abbrev q400 (p0 : q1) := (Int.toNat (wrZ (p0.1 - q458)))
abbrev q401 (p0 : q1) := (decide (q421 < p0.1) == true)
abbrev q402 (p0 : (Int × List Int × Unit) × (List (Int × Nat × List Int) × Unit) × Unit × List Nat × List Int × Unit) := ((lnZ p0.2.2.2.2.1) - q421)
abbrev q403 := (Kd.mp q471)
abbrev q404 (p0 : (Int × List Int × Unit) × (List (Int × Nat × List Int) × Unit) × Unit × List Nat × List Int × Unit) := (lnZ p0.2.2.2.2.1)
theorem h136 : c_math_bits_Len64.ok Tryz.prog GL 136 := by
  refine lib_ok (ks := [U64]) (rs := [I64]) Tryz.func136 (by kernel_rfl) (by decide) ?_
  rintro w F ⟨n, u⟩ vs h hg hp
  obtain ⟨v1, r1, rfl, h1, rfl⟩ := h
  obtain ⟨rfl, hn⟩ := VRep_int.1 h1
  have hn2 : 0 ≤ n ∧ n ≤ 18446744073709551615 := by simpa [InR, IntKind.min, IntKind.max, IntKind.signed, IntKind.bits] using hn
  refine Calls.mono (Tryz.bits_Len64 n w hn2.1 hn2.2) ?_
  rintro e w' ⟨rfl, rfl⟩
  have hb := bitLen_64 n.toNat
  refine ⟨Kept.refl _ _, [_], ((Lib.bitLen n.toNat : Int), ()), rfl, trivial, _, [], rfl, VRep_int.2 ⟨rfl, ?_⟩, rfl⟩
  simp [InR, IntKind.min, IntKind.max, IntKind.signed, IntKind.bits]
  omega
def t99 : Prop :=
  ∀ (x : q1), (Kd.wf (Kd.int IntKind.u64) x.1 /\ True) -> True -> True /\ (∀ (y : q1), (q36 y) -> True -> True) /\ True
theorem e99 : t99 = Con.vc c_math_bits_Len GL (mkEnv ty [(136, conSem c_math_bits_Len64)] [] [] [0, 2]) {} Tryz.f99.ntmps Tryz.f99.results.toList (bodyOf Tryz.f99) := by kernel_rfl
theorem k99 : t99 := by
  unfold t99
  delta q1 q36 wiZ
  rintro ⟨n, _⟩ hx hp
  try dsimp +instances only [dft_int, dft_sl, dft_str]
  simp only [true_and, and_true, eq_self_iff_true, implies_true, reduceCtorEq, false_implies, true_implies, decide_eq_true_eq, decide_eq_false_iff_not, beq_self_eq_true, Bool.not_eq_true', ne_eq, Decidable.not_not, List.nil_append, List.length_singleton, List.length_cons, List.length_nil, Nat.zero_add, Nat.add_zero, Nat.mul_one, and_self, beq_iff_eq, Bool.not_true, Bool.not_false, Bool.not_eq_false', Bool.cond_false_right, Bool.and_eq_true, imp_self, Bool.not_eq_true, Bool.cond_true_left, Bool.or_eq_true]
theorem h99 : c_math_bits_Len.ok Tryz.prog GL 99 := con_ok (H := {}) (mkEnv_ok (gl := GL) (l := [(136, conSem c_math_bits_Len64)]) (q := []) (d := []) _ tyOk (by kernel_rfl) ⟨h136.call, trivial⟩ trivial trivial) (by kernel_rfl) (by kernel_rfl) (Eq.mp e99 k99)
def t158 : Prop :=
  ∀ (x : q1), (q36 x) -> True -> decide (x.1 ≠ x.1) = false
theorem e158 : t158 = Con.vc c_cmp_isNaN_int GL (mkEnv ty [] [] [] [0, 2]) {} Tryz.f158.ntmps Tryz.f158.results.toList (bodyOf Tryz.f158) := by kernel_rfl
theorem k158 : t158 := by
  unfold t158
  delta q1 q36 wiZ
  rintro ⟨n, _⟩ hx hp
  try dsimp +instances only [dft_int, dft_sl, dft_str]
  simp only [true_and, and_true, eq_self_iff_true, implies_true, reduceCtorEq, false_implies, true_implies, decide_eq_true_eq, decide_eq_false_iff_not, beq_self_eq_true, Bool.not_eq_true', ne_eq, Decidable.not_not, List.nil_append, List.length_singleton, List.length_cons, List.length_nil, Nat.zero_add, Nat.add_zero, Nat.mul_one, and_self, beq_iff_eq, Bool.not_true, Bool.not_false, Bool.not_eq_false', Bool.cond_false_right, Bool.and_eq_true, imp_self, Bool.not_eq_true, Bool.cond_true_left, Bool.or_eq_true]
theorem h158 : c_cmp_isNaN_int.ok Tryz.prog GL 158 := con_ok (H := {}) (mkEnv_ok (gl := GL) (l := []) (q := []) (d := []) _ tyOk (by kernel_rfl) trivial trivial trivial) (by kernel_rfl) (by kernel_rfl) (Eq.mp e158 k158)
def t132 : Prop :=
  ∀ (x : q7), (q99 x) -> True -> True /\ (∀ (y : q4), (q49 y) -> y.1 = false -> (y.1 = true -> True) /\ (y.1 = true -> (y.1 == true) = true /\ True /\ (∀ (y : q4), (q49 y) -> y.1 = false ->
  ((!y.1) = false -> True) /\ ((!y.1) = false -> True) /\ ((!y.1) = false -> ((!y.1) == false) = true /\ ((!y.1) == false) = true /\ True) /\ ((!y.1) = false -> ((!y.1) == false) = true) /\
  (bif !y.1 then true else decide (x.1 < x.2.1)) = decide (x.1 < x.2.1)) /\ True) /\ (y.1 = !true -> decide (x.1 < x.2.1) = decide (x.1 < x.2.1))) /\ True
theorem e132 : t132 = Con.vc c_cmp_Less_int GL (mkEnv ty [(158, conSem c_cmp_isNaN_int)] [] [] [0, 1, 4]) {} Tryz.f132.ntmps Tryz.f132.results.toList (bodyOf Tryz.f132) := by kernel_rfl
theorem k132 : t132 := by
  unfold t132
  delta q7 q99 q4 q49 wiZ wbZ
  rintro ⟨n, m, _⟩ hx hp
  try dsimp +instances only [dft_int, dft_sl, dft_str]
  simp only [true_and, and_true, eq_self_iff_true, implies_true, reduceCtorEq, false_implies, true_implies, decide_eq_true_eq, decide_eq_false_iff_not, beq_self_eq_true, Bool.not_eq_true', ne_eq, Decidable.not_not, List.nil_append, List.length_singleton, List.length_cons, List.length_nil, Nat.zero_add, Nat.add_zero, Nat.mul_one, and_self, beq_iff_eq, Bool.not_true, Bool.not_false, Bool.not_eq_false', Bool.cond_false_right, Bool.and_eq_true, imp_self, Bool.not_eq_true, Bool.cond_true_left, Bool.or_eq_true]
  rintro ⟨y, _⟩ _ hy h
  have hy : y = false := hy
  subst hy
  cases h
theorem h132 : c_cmp_Less_int.ok Tryz.prog GL 132 := con_ok (H := {}) (mkEnv_ok (gl := GL) (l := [(158, conSem c_cmp_isNaN_int)]) (q := []) (d := []) _ tyOk (by kernel_rfl) ⟨h158.call, trivial⟩ trivial trivial) (by kernel_rfl) (by kernel_rfl) (Eq.mp e132 k132)
noncomputable def i126 : CallSem := vcFn (mkEnvO ty [(132, conSem c_cmp_Less_int)] [] [] [0, 1, 2, 6, 7, 12, 30] [1000000]) {} Tryz.f126.ntmps Tryz.f126.results.toList (bodyOf Tryz.f126)
theorem i126_ok : CallOk Tryz.prog GL 126 i126 := inlO_ok {} (mkEnvO_ok (gl := GL) (l := [(132, conSem c_cmp_Less_int)]) (q := []) (d := []) _ [1000000] tyOk (by kernel_rfl) ⟨h132.call, trivial⟩ trivial trivial) (by kernel_rfl) (by kernel_rfl)
noncomputable def i98 : CallSem := vcFn (mkEnv ty [(126, i126)] [] [] [0, 1, 2, 3, 8, 9, 10, 11, 12, 13, 14, 15, 16, 17, 18, 23, 29, 35, 50, 68, 72, 87, 113]) {rounds := [(2,1)]} Tryz.f98.ntmps Tryz.f98.results.toList (bodyOf Tryz.f98)
theorem i98_ok : CallOk Tryz.prog GL 98 i98 := inl_ok {rounds := [(2,1)]} (mkEnv_ok (gl := GL) (l := [(126, i126)]) (q := []) (d := []) _ tyOk (by kernel_rfl) ⟨i126_ok, trivial⟩ trivial trivial) (by kernel_rfl) (by kernel_rfl)
noncomputable def i63 : CallSem := vcFn (mkEnv ty [(98, i98), (99, conSem c_math_bits_Len)] [] [] [0, 2]) {} Tryz.f63.ntmps Tryz.f63.results.toList (bodyOf Tryz.f63)
theorem i63_ok : CallOk Tryz.prog GL 63 i63 := inl_ok {} (mkEnv_ok (gl := GL) (l := [(98, i98), (99, conSem c_math_bits_Len)]) (q := []) (d := []) _ tyOk (by kernel_rfl) ⟨i98_ok, h99.call, trivial⟩ trivial trivial) (by kernel_rfl) (by kernel_rfl)
noncomputable def i64 : CallSem → CallSem := vcSeq (mkEnv ty [] [] [] [0, 1, 3, 5, 7, 13]) {} Tryz.f64.ntmps Tryz.f64.results.toList (bodyOf Tryz.f64)
theorem i64_ok : SeqOk Tryz.prog GL 64 i64 := seq_ok {} (mkEnv_ok (gl := GL) (l := []) (q := []) (d := []) _ tyOk (by kernel_rfl) trivial trivial trivial) (by kernel_rfl) (by kernel_rfl)
noncomputable def i29 : CallSem := vcFn (mkEnv ty [] [] [] [0, 1, 2]) {} Tryz.f29.ntmps Tryz.f29.results.toList (bodyOf Tryz.f29)
theorem i29_ok : CallOk Tryz.prog GL 29 i29 := inl_ok {} (mkEnv_ok (gl := GL) (l := []) (q := []) (d := []) _ tyOk (by kernel_rfl) trivial trivial trivial) (by kernel_rfl) (by kernel_rfl)
noncomputable def i97 : CallSem := vcFn (mkEnv ty [] [(64, i64)] [] [0, 1, 2, 4, 5, 6, 7]) {} Tryz.f97.ntmps Tryz.f97.results.toList (bodyOf Tryz.f97)
theorem i97_ok : CallOk Tryz.prog GL 97 i97 := inl_ok {} (mkEnv_ok (gl := GL) (l := []) (q := [(64, i64)]) (d := []) _ tyOk (by kernel_rfl) trivial ⟨i64_ok, trivial⟩ trivial) (by kernel_rfl) (by kernel_rfl)
noncomputable def i62 : CallSem := vcFn (mkEnv ty [(97, i97)] [] [] [0, 2]) {} Tryz.f62.ntmps Tryz.f62.results.toList (bodyOf Tryz.f62)
theorem i62_ok : CallOk Tryz.prog GL 62 i62 := inl_ok {} (mkEnv_ok (gl := GL) (l := [(97, i97)]) (q := []) (d := []) _ tyOk (by kernel_rfl) ⟨i97_ok, trivial⟩ trivial trivial) (by kernel_rfl) (by kernel_rfl)
noncomputable def i28 : CallSem := vcFn (mkEnv ty [(62, i62), (63, i63)] [] [] [0, 2, 3]) {} Tryz.f28.ntmps Tryz.f28.results.toList (bodyOf Tryz.f28)
theorem i28_ok : CallOk Tryz.prog GL 28 i28 := inl_ok {} (mkEnv_ok (gl := GL) (l := [(62, i62), (63, i63)]) (q := []) (d := []) _ tyOk (by kernel_rfl) ⟨i62_ok, i63_ok, trivial⟩ trivial trivial) (by kernel_rfl) (by kernel_rfl)
def t11 : Prop :=
  ∀ (x : q6), (q71 x) -> List.length x.1 <= q183 -> q76 <= q72 /\ True /\ (∀ (y : q28), (q372 y) -> y.1 = kindsT -> List.length [SV.dat q403 y.1] <= q72 /\ q42 <= q72 /\ y.1 ≠ [] /\ ∃ (I :
  Unit -> q293 × (List (Int × Nat × List Int) × Unit) × Unit × List Nat × List Int × Unit -> Prop), ∃ (μ : Unit -> q293 × (List (Int × Nat × List Int) × Unit) × Unit × List Nat × List Int ×
  Unit -> Nat), (y.1 = y.1 /\ Value.slice none q74 q74 = Value.slice none q74 q74 /\ Value.slice none q74 q74 = Value.slice none q74 q74 /\ Value.slice none q74 q74 = Value.slice none q74 q74
  /\ Value.slice none q74 q74 = Value.slice none q74 q74 /\ y.1 = y.1 /\ q40 = q40 /\ x.1 = x.1 /\ I () ((q40, bs { data := #[] }, ()), (y.1, ()), (), [], [], ())) /\ ∀ (y_1 : Unit) (z : q293
  × (List (Int × Nat × List Int) × Unit) × Unit × List Nat × List Int × Unit), True -> (wiZ z.1.1 /\ wsZ z.1.2.1 /\ True) /\ (Kd.wf q403 z.2.1.1 /\ True) /\ True /\ (Kd.wf q230 z.2.2.2.2.1 /\
  True) -> I y_1 z -> (∀ (i : Nat) (key : Int) (x_1 : Nat × List Int), (List.brecOn.go (motive := fun (x : List (Int × Kd.T q471)) => Nat -> Option (Int × Kd.T q471)) y.1
  List.get?Internal._f).1 i = some (key, x_1) -> ¬i ∈ z.2.2.2.1 -> z.2.2.2.1 ++ [i] ≠ [] /\ q74 < q42 /\ (List.length z.2.2.2.2.1 + List.length [(q397 y z i).1]) * q524 <= q158 /\ List.length
  z.2.2.2.2.1 + List.length [(q397 y z i).1] <= q157 /\ y.1 = y.1 /\ Value.slice none q74 q74 = Value.slice none q74 q74 /\ Value.slice none q74 q74 = Value.slice none q74 q74 /\ Value.slice
  none q74 q74 = Value.slice none q74 q74 /\ Value.slice none q74 q74 = Value.slice none q74 q74 /\ y.1 = y.1 /\ q40 = q40 /\ x.1 = x.1 /\ I () ((z.1.1, z.1.2.1, ()), (z.2.1.1, ()), (),
  z.2.2.2.1 ++ [i], z.2.2.2.2.1 ++ [(q397 y z i).1], ()) /\ μ () ((z.1.1, z.1.2.1, ()), (z.2.1.1, ()), (), z.2.2.2.1 ++ [i], z.2.2.2.2.1 ++ [(q397 y z i).1], ()) < μ y_1 z) /\ ((∀ (i : Nat),
  i < List.length y.1 -> i ∈ z.2.2.2.1) -> True /\ (∀ (y_2 : q1), (q36 y_2) -> True -> (decide (wrZ (q402 z) <= q73) = true -> ∃ (I : q33), ∃ (μ : q34), (q40 = q40 /\ (q404 z) = (q404 z) /\
  (q404 z) = (q404 z) /\ q40 = q40 /\ Value.bool true = Value.bool true /\ wrZ (q402 z) = wrZ (q402 z) /\ Value.bool true = Value.bool true /\ Value.bool true = Value.bool true /\ q40 = q40
  /\ (q404 z) = (q404 z) /\ y_2.1 = y_2.1 /\ y_2.1 = y_2.1 /\ IntKind.wrap IntKind.u64 (q404 z) = IntKind.wrap IntKind.u64 (q404 z) /\ (q404 z) = (q404 z) /\ (q404 z) = (q404 z) /\ (q404 z) =
  (q404 z) /\ Value.slice none q74 q74 = Value.slice none q74 q74 /\ y.1 = y.1 /\ q40 = q40 /\ x.1 = x.1 /\ I (wrZ (q40 + q75), ()) ((z.1.1, z.1.2.1, ()), (z.2.1.1, ()), z.2.2.2.2.1, ())) /\
  ∀ (y_3 : q1) (z_1 : q35), (q36 y_3) -> (wiZ z_1.1.1 /\ wsZ z_1.1.2.1 /\ True) /\ (Kd.wf q403 z_1.2.1.1 /\ True) /\ (Kd.wf q230 z_1.2.2.1 /\ True) -> I y_3 z_1 -> (decide (y_3.1 < (q404 z))
  = true -> ∃ (I_1 : q33), ∃ (μ_1 : q34), (Value.bool true = Value.bool true /\ y_3.1 = y_3.1 /\ q40 = q40 /\ (q404 z) = (q404 z) /\ (q404 z) = (q404 z) /\ q40 = q40 /\ Value.bool true =
  Value.bool true /\ wrZ (q402 z) = wrZ (q402 z) /\ Value.bool true = Value.bool true /\ Value.bool true = Value.bool true /\ q40 = q40 /\ (q404 z) = (q404 z) /\ y_2.1 = y_2.1 /\ y_2.1 =
  y_2.1 /\ IntKind.wrap IntKind.u64 (q404 z) = IntKind.wrap IntKind.u64 (q404 z) /\ (q404 z) = (q404 z) /\ (q404 z) = (q404 z) /\ (q404 z) = (q404 z) /\ Value.slice none q74 q74 = Value.slice
  none q74 q74 /\ y.1 = y.1 /\ q40 = q40 /\ x.1 = x.1 /\ I_1 (y_3.1, ()) ((z_1.1.1, z_1.1.2.1, ()), (z_1.2.1.1, ()), z_1.2.2.1, ())) /\ ∀ (y_4 : q1) (z_2 : q35), (q36 y_4) -> (wiZ z_2.1.1 /\
  wsZ z_2.1.2.1 /\ True) /\ (Kd.wf q403 z_2.2.1.1 /\ True) /\ (Kd.wf q230 z_2.2.2.1 /\ True) -> I_1 y_4 z_2 -> (decide (q421 < y_4.1) = true -> True) /\ (decide (q421 < y_4.1) = true -> True)
  /\ (decide (q421 < y_4.1) = true -> (q401 y_4) = true /\ (q401 y_4) = true /\ (q40 <= y_4.1 /\ y_4.1 < (lnZ z_2.2.2.1)) /\ True) /\ (q398 y_4) /\ (decide (q421 < y_4.1) = true -> True) /\
  (decide (q421 < y_4.1) = true -> True) /\ (q398 y_4) /\ (decide (q421 < y_4.1) = true -> (q401 y_4) = true /\ (q401 y_4) = true /\ (q40 <= wrZ (y_4.1 - q458) /\ wrZ (y_4.1 - q458) < (lnZ
  z_2.2.2.1)) /\ True) /\ (q398 y_4) /\ (decide (q421 < y_4.1) = true -> (q401 y_4) = true /\ (q401 y_4) = true /\ True /\ (∀ (y_5 : q4), (q49 y_5) -> y_5.1 = decide (List.getD z_2.2.2.1
  (q411 y_4) q241 < List.getD z_2.2.2.1 (q400 y_4) q241) -> (y_5.1 = true -> (q40 <= wrZ (y_4.1 - q458) /\ wrZ (y_4.1 - q458) < (lnZ z_2.2.2.1)) /\ (q40 <= y_4.1 /\ y_4.1 < (lnZ z_2.2.2.1))
  /\ (((q40 <= y_4.1 /\ y_4.1 < (lnZ z_2.2.2.1)) /\ ((q394 y_4 z_2) /\ (Value.bool true = Value.bool true /\ y_3.1 = y_3.1 /\ q40 = q40 /\ (q404 z) = (q404 z) /\ (q404 z) = (q404 z) /\ q40 =
  q40 /\ Value.bool true = Value.bool true /\ wrZ (q402 z) = wrZ (q402 z) /\ Value.bool true = Value.bool true /\ Value.bool true = Value.bool true /\ q40 = q40 /\ (q404 z) = (q404 z) /\
  y_2.1 = y_2.1 /\ y_2.1 = y_2.1 /\ IntKind.wrap IntKind.u64 (q404 z) = IntKind.wrap IntKind.u64 (q404 z) /\ (q404 z) = (q404 z) /\ (q404 z) = (q404 z) /\ (q404 z) = (q404 z) /\ Value.slice
  none q74 q74 = Value.slice none q74 q74 /\ y.1 = y.1 /\ q40 = q40 /\ x.1 = x.1 /\ I_1 (wrZ (y_4.1 - q458), ()) ((z_2.1.1, z_2.1.2.1, ()), (z_2.2.1.1, ()), List.set (q395 z_2 y_4) (q400 y_4)
  (q399 z_2 y_4), ()) /\ μ_1 (wrZ (y_4.1 - q458), ()) ((z_2.1.1, z_2.1.2.1, ()), (z_2.2.1.1, ()), List.set (q395 z_2 y_4) (q400 y_4) (q399 z_2 y_4), ()) < μ_1 y_4 z_2) /\ True) /\ True) /\
  True) /\ (((q40 <= y_4.1 /\ y_4.1 < (lnZ z_2.2.2.1)) /\ ((q394 y_4 z_2) /\ (Value.bool true = Value.bool true /\ y_3.1 = y_3.1 /\ q40 = q40 /\ (q404 z) = (q404 z) /\ (q404 z) = (q404 z) /\
  q40 = q40 /\ Value.bool true = Value.bool true /\ wrZ (q402 z) = wrZ (q402 z) /\ Value.bool true = Value.bool true /\ Value.bool true = Value.bool true /\ q40 = q40 /\ (q404 z) = (q404 z)
  /\ y_2.1 = y_2.1 /\ y_2.1 = y_2.1 /\ IntKind.wrap IntKind.u64 (q404 z) = IntKind.wrap IntKind.u64 (q404 z) /\ (q404 z) = (q404 z) /\ (q404 z) = (q404 z) /\ (q404 z) = (q404 z) /\
  Value.slice none q74 q74 = Value.slice none q74 q74 /\ y.1 = y.1 /\ q40 = q40 /\ x.1 = x.1 /\ I_1 (wrZ (y_4.1 - q458), ()) ((z_2.1.1, z_2.1.2.1, ()), (z_2.2.1.1, ()), List.set (q395 z_2
  y_4) (q400 y_4) (q399 z_2 y_4), ()) /\ μ_1 (wrZ (y_4.1 - q458), ()) ((z_2.1.1, z_2.1.2.1, ()), (z_2.2.1.1, ()), List.set (q395 z_2 y_4) (q400 y_4) (q399 z_2 y_4), ()) < μ_1 y_4 z_2) /\
  True) /\ True) /\ True) /\ True) /\ (y_5.1 = false -> q40 = q40 /\ (q404 z) = (q404 z) /\ (q404 z) = (q404 z) /\ q40 = q40 /\ Value.bool true = Value.bool true /\ wrZ (q402 z) = wrZ (q402
  z) /\ Value.bool true = Value.bool true /\ Value.bool true = Value.bool true /\ q40 = q40 /\ (q404 z) = (q404 z) /\ y_2.1 = y_2.1 /\ y_2.1 = y_2.1 /\ IntKind.wrap IntKind.u64 (q404 z) =
  IntKind.wrap IntKind.u64 (q404 z) /\ (q404 z) = (q404 z) /\ (q404 z) = (q404 z) /\ (q404 z) = (q404 z) /\ Value.slice none q74 q74 = Value.slice none q74 q74 /\ y.1 = y.1 /\ q40 = q40 /\
  x.1 = x.1 /\ I (wrZ (q249 y_3), ()) ((z_2.1.1, z_2.1.2.1, ()), (z_2.2.1.1, ()), z_2.2.2.1, ()) /\ μ (wrZ (q249 y_3), ()) ((z_2.1.1, z_2.1.2.1, ()), (z_2.2.1.1, ()), z_2.2.2.1, ()) < μ y_3
  z_1)) /\ True) /\ (decide (q421 < y_4.1) = !true -> q40 = q40 /\ (q404 z) = (q404 z) /\ (q404 z) = (q404 z) /\ q40 = q40 /\ Value.bool true = Value.bool true /\ wrZ (q402 z) = wrZ (q402 z)
  /\ Value.bool true = Value.bool true /\ Value.bool true = Value.bool true /\ q40 = q40 /\ (q404 z) = (q404 z) /\ y_2.1 = y_2.1 /\ y_2.1 = y_2.1 /\ IntKind.wrap IntKind.u64 (q404 z) =
  IntKind.wrap IntKind.u64 (q404 z) /\ (q404 z) = (q404 z) /\ (q404 z) = (q404 z) /\ (q404 z) = (q404 z) /\ Value.slice none q74 q74 = Value.slice none q74 q74 /\ y.1 = y.1 /\ q40 = q40 /\
  x.1 = x.1 /\ I (wrZ (q249 y_3), ()) ((z_2.1.1, z_2.1.2.1, ()), (z_2.2.1.1, ()), z_2.2.2.1, ()) /\ μ (wrZ (q249 y_3), ()) ((z_2.1.1, z_2.1.2.1, ()), (z_2.2.1.1, ()), z_2.2.2.1, ()) < μ y_3
  z_1)) /\ (decide (y_3.1 < (q404 z)) = false -> ∃ (I : Int × Int × Unit -> q293 × List Int × Unit -> Prop), ∃ (μ : Int × Int × Unit -> q293 × List Int × Unit -> Nat), ((lnZ z_1.2.2.1) = (lnZ
  z_1.2.2.1) /\ x.1 = x.1 /\ I (q40, q40, ()) ((z_1.1.1, z_1.1.2.1, ()), z_1.2.2.1, ())) /\ ∀ (y : q7) (z : q293 × List Int × Unit), (q99 y) -> (wiZ z.1.1 /\ wsZ z.1.2.1 /\ True) /\ (Kd.wf
  q230 z.2.1 /\ True) -> I y z -> (decide (y.1 < (lnZ z_1.2.2.1)) = true -> (q40 <= y.1 /\ y.1 < (lnZ z.2.1)) /\ True /\ (∀ (y_4 : q28), (q372 y_4) -> y_4.1 = kindsT -> True /\ (∀ (y_5 : q5),
  (q50 y_5) -> (y_5.1 = if hasP (q396 z y y_4).2 x.1 = true then List.drop (List.length (q396 z y y_4).2) x.1 else x.1) /\ y_5.2.1 = hasP (q396 z y y_4).2 x.1 -> ((!y_5.2.1) = true -> (lnZ
  z_1.2.2.1) = (lnZ z_1.2.2.1) /\ x.1 = x.1 /\ I (wrZ (q101 y), y.2.1, ()) ((z.1.1, z.1.2.1, ()), z.2.1, ()) /\ μ (wrZ (q101 y), y.2.1, ()) ((z.1.1, z.1.2.1, ()), z.2.1, ()) < μ y z) /\
  ((!y_5.2.1) = false -> ∃ (J : List Int × Int × Unit -> q293 × List Int × Unit -> Prop), ((decide (List.getD z.2.1 (q103 y) q241 = (7 : Int)) = true -> List.length y_5.1 <= q175 /\ (∀ (y_6 :
  q6), (q71 y_6) -> y_6.1 = unhexD y_5.1 -> Value.bool false = Value.bool false /\ y_5.2.1 = y_5.2.1 /\ List.getD z.2.1 (q103 y) q241 = List.getD z.2.1 (q103 y) q241 /\ Value.bool true =
  Value.bool true /\ y.1 = y.1 /\ (lnZ z_1.2.2.1) = (lnZ z_1.2.2.1) /\ x.1 = x.1 /\ J (y_6.1, y.2.1, ()) ((z.1.1, z.1.2.1, ()), z.2.1, ())) /\ True) /\ (decide (List.getD z.2.1 (q103 y) q241
  = (7 : Int)) = false -> (decide (List.getD z.2.1 (q103 y) q241 = (4 : Int)) = true -> List.length y_5.1 <= q183 /\ (∀ (y_6 : q27), (q365 y_6) -> parN y_5.1 y_6.1 y_6.2.1 = true ->
  List.length y_6.1 <= q88 /\ (∀ (y_7 : q0), (q244 y_7) -> (y_7.1, y_7.2.1) = EncN y_6.1 -> (decide (y_6.2.1 ≠ q40) = true -> parG x.1 q40 (bs { data := #[] }) (130 : Int) = true) /\ (decide
  (y_6.2.1 ≠ q40) = false -> Value.bool false = Value.bool false /\ y_5.2.1 = y_5.2.1 /\ List.getD z.2.1 (q103 y) q241 = List.getD z.2.1 (q103 y) q241 /\ Value.bool true = Value.bool true /\
  y.1 = y.1 /\ (lnZ z_1.2.2.1) = (lnZ z_1.2.2.1) /\ x.1 = x.1 /\ J (y_7.1, y.2.1, ()) ((z.1.1, z.1.2.1, ()), z.2.1, ()))) /\ True) /\ True) /\ (decide (List.getD z.2.1 (q103 y) q241 = (4 :
  Int)) = false -> Value.bool false = Value.bool false /\ y_5.2.1 = y_5.2.1 /\ List.getD z.2.1 (q103 y) q241 = List.getD z.2.1 (q103 y) q241 /\ Value.bool true = Value.bool true /\ y.1 = y.1
  /\ (lnZ z_1.2.2.1) = (lnZ z_1.2.2.1) /\ x.1 = x.1 /\ J (y_5.1, y.2.1, ()) ((z.1.1, z.1.2.1, ()), z.2.1, ())))) /\ ∀ (u : q0) (z_2 : q293 × List Int × Unit), (q98 u) -> (wiZ z_2.1.1 /\ wsZ
  z_2.1.2.1 /\ True) /\ (Kd.wf q230 z_2.2.1 /\ True) -> J u z_2 -> q76 <= q72 /\ List.length u.1 <= q175 /\ (∀ (y_6 : q4), (q49 y_6) -> y_6.1 = mayG (List.getD z.2.1 (Int.toNat y.1) q470) u.1
  -> (y_6.1 = true -> parG x.1 (List.getD z.2.1 (Int.toNat y.1) q470) u.1 q40 = true) /\ (y_6.1 = false -> (lnZ z_1.2.2.1) = (lnZ z_1.2.2.1) /\ x.1 = x.1 /\ I (wrZ (q101 y), u.2.1, ())
  ((z_2.1.1, z_2.1.2.1, ()), z_2.2.1, ()) /\ μ (wrZ (q101 y), u.2.1, ()) ((z_2.1.1, z_2.1.2.1, ()), z_2.2.1, ()) < μ y z)) /\ True)) /\ True) /\ True) /\ (decide (y.1 < (lnZ z_1.2.2.1)) =
  false -> parG x.1 q40 (bs { data := #[] }) (130 : Int) = true))) /\ (decide (wrZ (q402 z) <= q73) = false -> (decide (y_2.1 = q40) = true -> False) /\ (decide (y_2.1 = q40) = false ->
  False))) /\ True)) /\ True
theorem e11 : t11 = Con.vc c_host_Parse GL (mkEnv ty [(28, i28), (29, i29), (14, conSem c_host_kinds), (30, conSem c_strings_CutPrefix), (31, conSem c_host_bytes), (32, conSem c_name_Parse), (33, conSem c_name_Encode), (8, conSem c_host_May)] [] [] [0, 2, 3, 5, 6, 7, 8, 9, 10, 12, 15, 16, 17, 18, 31, 32, 33, 37, 50, 58]) {joins := [15]} Tryz.f11.ntmps Tryz.f11.results.toList (bodyOf Tryz.f11) := by kernel_rfl
theorem k11 : t11 := by
  unfold t11
  delta q6 q71 q183 q76 q72 q28 q372 q403 q42 q293 q74 q40 wiZ wsZ q230 q471 q397 q524 q158 q157 q1 q36 wrZ q402 q73 q33 q34 q404 q75 q35 q421 q401 lnZ q398 q458 q4 q49 q411 q241 q400 q394 q395 q399 q249 q7 q99 q5 q50 q396 q101 q103 q175 q27 q365 q88 q0 q244 q98 q470 q541 q437 wbZ q484 wyZ
  rintro ⟨s, _⟩ hx hp
  have hp : s.length ≤ 10000000 := hp
  have hb : Bys s := str_bys hx.1
  try dsimp +instances only [dft_int, dft_sl, dft_str]
  simp only [true_and, and_true, eq_self_iff_true, implies_true, reduceCtorEq, false_implies, true_implies, decide_eq_true_eq, decide_eq_false_iff_not, beq_self_eq_true, Bool.not_eq_true', ne_eq, Decidable.not_not, List.nil_append, List.length_singleton, List.length_cons, List.length_nil, Nat.zero_add, Nat.add_zero, Nat.mul_one, and_self, beq_iff_eq, Bool.not_true, Bool.not_false, Bool.not_eq_false', Bool.cond_false_right, Bool.and_eq_true, imp_self, Bool.not_eq_true, Bool.cond_true_left, Bool.or_eq_true]
  rw [bs_nil]
  refine ⟨by decide, ?_⟩
  rintro ⟨kt, _⟩ _ ek
  simp only at ek ⊢
  subst ek
  have h4 : kindsT.length = 4 := rfl
  refine ⟨by decide, by decide, by decide, fun _ z => (z.2.2.2.2.1 : List Int) = (z.2.2.2.1 : List Nat).map (fun i => (kindsT.getD i ((0 : Int), (Kd.fn.pair Kd.str).dft)).1) ∧ (z.2.2.2.1 : List Nat).length + miss z.2.2.2.1 = 4, fun _ z => miss z.2.2.2.1, ⟨rfl, rfl⟩, ?_⟩
  rintro ⟨⟩ ⟨v, ⟨mv, _⟩, ⟨⟩, seen, row, _⟩ _ ⟨hrow, hcnt⟩
  simp only at hrow hcnt ⊢
  refine ⟨fun i key x hi hni => ?_, fun hall => ?_⟩
  . have hi4 : i < 4 := by
      rcases Nat.lt_or_ge i 4 with h | h
      . exact h
      . obtain ⟨n, rfl⟩ := Nat.exists_eq_add_of_le h
        rw [Nat.add_comm] at hi
        cases hi
    have hm := miss_snoc hi4 hni
    have hrl : row.length = seen.length := by rw [hrow, List.length_map]
    refine ⟨by simp, by decide, by omega, by omega, ⟨?_, ?_⟩, by omega⟩
    . rw [List.map_append, List.map_singleton, hrow]
      simp
    . rw [List.length_append, List.length_singleton]; omega
  have hm0 := miss_all (l := seen) fun i hi => hall i (by rw [h4]; exact hi)
  have hrl : row.length = 4 := by rw [hrow, List.length_map]; omega
  have hS : S4 row := by
    have hin : ∀ i, i < 4 → (kindsT.getD i ((0 : Int), (Kd.fn.pair Kd.str).dft)).1 ∈ row := fun i hi => by
      rw [hrow]
      exact List.mem_map.2 ⟨i, hall i (by rw [h4]; exact hi), rfl⟩
    exact ⟨hrl, hin 0 (by omega), hin 1 (by omega), hin 2 (by omega), hin 3 (by omega)⟩
  clear hrow hcnt hm0 hall
  rintro ⟨bl, _⟩ _
  have hw : IntKind.i64.wrap ((row.length : Int) - 0) = 4 := by rw [hrl]; decide
  rw [hw]
  refine ⟨fun _ => ?_, fun h => absurd (by decide) h⟩
  have hw1 : IntKind.i64.wrap (0 + 1) = 1 := by decide
  rw [hw1]
  refine ⟨fun y z => 1 ≤ y.1 ∧ y.1 ≤ 4 ∧ S4 z.2.2.1 ∧ srtP z.2.2.1 y.1.toNat, fun y _ => (4 - y.1).toNat, ⟨by decide, by decide, hS, fun p q h1 h2 => ?_⟩, ?_⟩
  . have : (1 : Int).toNat = 1 := rfl
    rw [this] at h2
    omega
  rintro ⟨i, _⟩ ⟨v2, mv2, r, _⟩ _ _ ⟨i1, i4, hS2, hsr⟩
  simp only at i1 i4 hS2 hsr ⊢
  rw [hrl]
  have wi : IntKind.i64.wrap (i + 1) = i + 1 := wrapK _ (by omega) (by omega)
  have ei : (i + 1).toNat = i.toNat + 1 := by omega
  rw [wi]
  refine ⟨fun hlt => ?_, fun hge => ?_⟩
  . refine ⟨fun y z => 0 ≤ y.1 ∧ y.1 ≤ i ∧ S4 z.2.2.1 ∧ srtX z.2.2.1 i.toNat y.1.toNat, fun y _ => y.1.toNat, ⟨by simp only; omega, by simp only; omega, hS2, srtX_of hsr⟩, ?_⟩
    rintro ⟨j, _⟩ ⟨v3, mv3, r3, _⟩ _ _ ⟨j0, ji, hS3, hsx⟩
    simp only at j0 ji hS3 hsx ⊢
    have hl3 := hS3.1
    have wj : 0 < j → IntKind.i64.wrap (j - 1) = j - 1 := fun h => wrapK _ (by omega) (by omega)
    have ej : 0 < j → (j - 1).toNat = j.toNat - 1 := fun h => by omega
    refine ⟨fun h => ⟨h, h, j0, by omega⟩, fun h => ?_, fun h => ?_, fun h => ?_⟩
    . rw [wj h]; exact ⟨h, h, by omega, by omega⟩
    . rw [wj h, ej h]
      refine ⟨h, h, ?_⟩
      rintro ⟨lt, _⟩ _ hlt2
      simp only at hlt2 ⊢
      subst hlt2
      refine ⟨fun hl => ?_, fun hl => ?_⟩
      . have hl := of_decide_eq_true hl
        refine ⟨⟨by omega, by first | omega | (rw [List.length_set]; omega)⟩, ⟨by omega, by first | omega | (rw [List.length_set]; omega)⟩, ⟨by omega, by first | omega | (rw [List.length_set]; omega)⟩, ⟨by omega, by first | omega | (rw [List.length_set]; omega)⟩, ⟨by omega, by omega, S4_swap hS3 (by omega) (by omega), ?_⟩, by omega⟩
        show srtX (swapA r3 j.toNat) i.toNat (j.toNat - 1)
        exact srtX_swap hsx (by omega) (by omega) (by omega) hl
      . have hl := of_decide_eq_false hl
        refine ⟨⟨by omega, by omega, hS3, ?_⟩, by omega⟩
        rw [ei]
        exact srtX_stop hsx (by omega) (by omega)
    . have hj : j = 0 := by omega
      subst hj
      refine ⟨⟨by omega, by omega, hS3, ?_⟩, by omega⟩
      rw [ei]
      exact srtX_stop0 hsx
  have hi4 : i.toNat = 4 := by omega
  rw [hi4] at hsr
  have hr := S4_srt hS2 hsr
  subst hr
  clear hsr hS2 hS hge hi4 i1 i4 wi ei
  refine ⟨fun y z => (z.2.1 : List Int) = [1, 2, 4, 7] ∧ 0 ≤ y.1 ∧ y.1 ≤ 4 ∧ ∀ k' t', Bys t' → mayG k' t' = true → showG k' t' = s → k' ∉ ([1, 2, 4, 7] : List Int).take y.1.toNat, fun y _ => (4 - y.1).toNat, ⟨rfl, by decide, by decide, fun k' t' _ _ _ h => by cases h⟩, ?_⟩
  rintro ⟨i, oth, _⟩ ⟨v4, r4, _⟩ _ _ ⟨hr4, i0, i4, hno⟩
  simp only at hr4 i0 i4 hno ⊢
  subst hr4
  have wi : IntKind.i64.wrap (i + 1) = i + 1 := wrapK _ (by omega) (by omega)
  have ei : (i + 1).toNat = i.toNat + 1 := by omega
  rw [wi]
  refine ⟨fun hlt => ?_, fun hge => ?_⟩
  . have hlt : i < 4 := hlt
    have hk := kinds_at (i := i.toNat) (by omega)
    have hst : ([1, 2, 4, 7] : List Int).take (i.toNat + 1) = ([1, 2, 4, 7] : List Int).take i.toNat ++ [([1, 2, 4, 7] : List Int).getD i.toNat 0] := take_snoc _ _ (by simp; omega)
    generalize ([1, 2, 4, 7] : List Int).getD i.toNat 0 = n at hk hst
    have next : (∀ t', Bys t' → mayG n t' = true → showG n t' = s → False) → ∀ k' t', Bys t' → mayG k' t' = true → showG k' t' = s → k' ∉ ([1, 2, 4, 7] : List Int).take (i + 1).toNat := by
      intro h k' t' h1 h2 h3 h4
      rw [ei, hst] at h4
      rcases List.mem_append.1 h4 with h4 | h4
      . exact hno k' t' h1 h2 h3 h4
      . rw [List.mem_singleton.1 h4] at h2 h3
        exact h t' h1 h2 h3
    refine ⟨⟨i0, hlt⟩, ?_⟩
    rintro ⟨kt, _⟩ _ ek
    simp only at ek ⊢
    subst ek
    rw [kindsT_look hk]
    rintro ⟨rest, ok, _⟩ _ ⟨er, eo⟩
    simp only at er eo ⊢
    subst eo
    refine ⟨fun h => ?_, fun h => ?_⟩
    . refine ⟨⟨by trivial, by omega, by omega, next fun t' _ _ h3 => ?_⟩, by omega⟩
      rw [← h3, show_head, hasP_app] at h
      cases h
    rw [if_pos h] at er
    have hs := of_head h
    rw [← er] at hs
    have hrl : rest.length ≤ 10000000 := by rw [er, List.length_drop]; omega
    have hrb : Bys rest := by rw [er]; exact bys_drop hb _
    have hbody : ∀ t', showG n t' = s → rest = bodyG n t' := fun t' h3 => by rw [er]; exact body_hit h3
    refine ⟨fun u z => (z.2.1 : List Int) = [1, 2, 4, 7] ∧ Bys (u.1 : List Int) ∧ (u.1 : List Int).length ≤ 100000000 ∧ (mayG n u.1 = true → showG n u.1 = s) ∧ (mayG n u.1 = false → ∀ t', Bys t' → mayG n t' = true → showG n t' = s → False), ⟨fun h7 => ?_, fun h7 => ⟨fun h4 => ?_, fun h4 => ?_⟩⟩, ?_⟩
    . subst h7
      refine ⟨by omega, ?_⟩
      rintro ⟨b, _⟩ _ ebb
      simp only at ebb ⊢
      subst ebb
      refine ⟨by trivial, unhex_bys _, ?_, fun hm => ?_, fun hm t' h1 h2 h3 => ?_⟩
      . unfold unhexD
        cases hu : unhexP rest with
        | none => simp
        | some t =>
          have h8 := hex_len t
          rw [(hex_unhex hu).1] at h8
          simp only [Option.getD_some]; omega
      . rw [show_head]
        show headG 7 ++ hexD (unhexD rest) = s
        rw [(unhex_ip hm).1, ← hs]
      . have h5 : rest = hexD t' := hbody t' h3
        rw [h5, unhexD_hex h1, h2] at hm
        cases hm
    . subst h4
      refine ⟨hrl, ?_⟩
      rintro ⟨m, e, _⟩ _ hm
      simp only at hm ⊢
      refine ⟨by have := parN_len hm; omega, ?_⟩
      rintro ⟨b, f, _⟩ hbw hbe
      simp only at hbe ⊢
      refine ⟨fun he => parG_bad fun k' t' h1 h2 h3 => ?_, fun he => ?_⟩
      . have h5 : hasP (headG k') s = true := by rw [← h3, show_head, hasP_app]
        have h6 := head_apart' (may_kind' h2) hk h5 h
        subst h6
        have h7 := named_text (show namedD t' = true from h2)
        rw [hbody t' h3] at hm
        exact he (parN_of h7.1 hm).2
      . subst he
        obtain ⟨hmn, hmt⟩ := parN_ok hm
        rw [EncN, if_pos hmn] at hbe
        obtain ⟨rfl, _⟩ := Prod.mk.inj hbe
        have hn : mayG 4 (encN m) = true := named_enc hmn
        refine ⟨by trivial, sl_bys hbw.1, by have := encN_len hmn; omega, fun _ => ?_, fun hf => by rw [hn] at hf; cases hf⟩
        rw [show_head]
        show headG 4 ++ textN (guessD (encN m)) = s
        rw [guess_enc hmn, hmt, ← hs]
    . have hn12 : n = 1 ∨ n = 2 := by rcases hk with h | h | h | h <;> omega
      refine ⟨by trivial, hrb, by show rest.length ≤ _; omega, fun _ => ?_, fun hf t' h1 h2 h3 => ?_⟩
      . rw [show_head]
        rcases hn12 with rfl | rfl
        . exact hs.symm
        . exact hs.symm
      . have h5 := hbody t' h3
        have h6 : rest = t' := by rcases hn12 with rfl | rfl <;> exact h5
        rw [h6, h2] at hf
        cases hf
    rintro ⟨u, oth2, _⟩ ⟨v5, r5, _⟩ _ _ ⟨hr5, hub, hul, hyes, hnot⟩
    simp only at hr5 hub hul hyes hnot ⊢
    subst hr5
    refine ⟨by decide, hul, ?_⟩
    rintro ⟨q, _⟩ _ eq
    simp only at eq ⊢
    subst eq
    refine ⟨fun hm => parG_good hm (hyes hm) hub, fun hm => ⟨⟨by trivial, by omega, by omega, next (hnot hm)⟩, by omega⟩⟩
  . refine parG_bad fun k' t' h1 h2 h3 => hno k' t' h1 h2 h3 ?_
    have : ¬ i < 4 := hge
    rw [show i.toNat = 4 by omega]
    exact kind_mem (may_kind' h2)
theorem h11 : c_host_Parse.ok Tryz.prog GL 11 := con_ok (H := {joins := [15]}) (mkEnv_ok (gl := GL) (l := [(28, i28), (29, i29), (14, conSem c_host_kinds), (30, conSem c_strings_CutPrefix), (31, conSem c_host_bytes), (32, conSem c_name_Parse), (33, conSem c_name_Encode), (8, conSem c_host_May)]) (q := []) (d := []) _ tyOk (by kernel_rfl) ⟨i28_ok, i29_ok, h14.call, h30.call, h31.call, h32.call, h33.call, h8.call, trivial⟩ trivial trivial) (by kernel_rfl) (by kernel_rfl) (Eq.mp e11 k11)
end Go.Proofs.YtlpbhgcndebkcaaGreatDoor
end
section
namespace Go.Proofs.YtlpbhgcndebkcaaGreatDoor
open Go Go.Vc Go.Pl Go.Proofs
def c_law13_names : Con := { args := [], res := [.dat .bool], pre := fun _ => True, post := fun _ y => y.1 = true }
def c_law13_works : Con := { args := [], res := [.dat .bool], pre := fun _ => True, post := fun _ y => y.1 = true }
end Go.Proofs.YtlpbhgcndebkcaaGreatDoor
end
section
namespace Go.Proofs.YtlpbhgcndebkcaaGreatDoor
open Go Go.Vc Go.Pl Go.Proofs
set_option linter.unusedVariables false
set_option linter.unusedSimpArgs false
def t27 : Prop :=
  ∀ (x : Unit), True -> True -> true = true
theorem e27 : t27 = Con.vc c_law13_names GL (mkEnv ty [] [] [] [0]) {} Tryz.f27.ntmps Tryz.f27.results.toList (bodyOf Tryz.f27) := by kernel_rfl
theorem k27 : t27 := by
  unfold t27
  intro _ _ _; rfl
theorem h27 : c_law13_names.ok Tryz.prog GL 27 := con_ok (H := {}) (mkEnv_ok (gl := GL) (l := []) (q := []) (d := []) _ tyOk (by kernel_rfl) trivial trivial trivial) (by kernel_rfl) (by kernel_rfl) (Eq.mp e27 k27)
def t10 : Prop :=
  ∀ (x : Unit), True -> True -> (3 : Nat) <= q88 /\ (∀ (y : q4), (q49 y) -> y.1 = dnsD (bs { data := #[q461, q417, (98 : UInt8)] }) -> (y.1 = true -> (5 : Nat) <= q88 /\ (∀ (y : q4), (q49 y)
  -> y.1 = wildD (bs { data := #[(42 : UInt8), q417, q461, q417, (98 : UInt8)] }) -> (y.1 = true -> (3 : Nat) <= q88 /\ (∀ (y : q4), (q49 y) -> y.1 = emailD (bs { data := #[q461, (64 :
  UInt8), (98 : UInt8)] }) -> (y.1 = true -> True /\ (∀ (y : q4), (q49 y) -> y.1 = ipD (bs { data := #[(49 : UInt8), (50 : UInt8), (51 : UInt8), (52 : UInt8)] }) -> (y.1 = true -> True /\ (∀
  (y : q4), (q49 y) -> y.1 = true -> y.1 = true) /\ True) /\ (y.1 = !true -> false = true)) /\ True) /\ (y.1 = !true -> false = true)) /\ True) /\ (y.1 = !true -> false = true)) /\ True) /\
  (y.1 = !true -> false = true)) /\ True
theorem e10 : t10 = Con.vc c_law13_works GL (mkEnv ty [(23, conSem c_host_DNS), (24, conSem c_host_Wild), (25, conSem c_host_Email), (26, conSem c_host_IP), (27, conSem c_law13_names)] [] [] [0]) {} Tryz.f10.ntmps Tryz.f10.results.toList (bodyOf Tryz.f10) := by kernel_rfl
theorem k10 : t10 := by
  unfold t10
  delta q88 q4 q49 q461 q417 wbZ
  rintro _ hx hp
  try dsimp +instances only [dft_int, dft_sl, dft_str]
  simp only [true_and, and_true, eq_self_iff_true, implies_true, reduceCtorEq, false_implies, true_implies, decide_eq_true_eq, decide_eq_false_iff_not, beq_self_eq_true, Bool.not_eq_true', ne_eq, Decidable.not_not, List.nil_append, List.length_singleton, List.length_cons, List.length_nil, Nat.zero_add, Nat.add_zero, Nat.mul_one, and_self, beq_iff_eq, Bool.not_true, Bool.not_false, Bool.not_eq_false', Bool.cond_false_right, Bool.and_eq_true, imp_self, Bool.not_eq_true, Bool.cond_true_left, Bool.or_eq_true]
  have b1 : bs { data := #[97, 46, 98] } = [97, 46, 98] := by decide
  have b2 : bs { data := #[42, 46, 97, 46, 98] } = [42, 46, 97, 46, 98] := by decide
  have b3 : bs { data := #[97, 64, 98] } = [97, 64, 98] := by decide
  have b4 : bs { data := #[49, 50, 51, 52] } = [49, 50, 51, 52] := by decide
  have d1 : dnsD [97, 46, 98] = true := by decide
  have d2 : wildD [42, 46, 97, 46, 98] = true := by decide
  have d3 : emailD [97, 64, 98] = true := by decide
  have d4 : ipD [49, 50, 51, 52] = true := by decide
  rw [b1, b2, b3, b4, d1, d2, d3, d4]
  refine ⟨by decide, ?_⟩
  rintro ⟨a, _⟩ _ ea
  refine ⟨fun _ => ⟨by decide, ?_⟩, fun h => by rw [show a = true from ea] at h; cases h⟩
  rintro ⟨b, _⟩ _ eb
  refine ⟨fun _ => ⟨by decide, ?_⟩, fun h => by rw [show b = true from eb] at h; cases h⟩
  rintro ⟨c, _⟩ _ ec
  refine ⟨fun _ => ?_, fun h => by rw [show c = true from ec] at h; cases h⟩
  rintro ⟨d, _⟩ _ ed h
  rw [show d = true from ed] at h; cases h
theorem h10 : c_law13_works.ok Tryz.prog GL 10 := con_ok (H := {}) (mkEnv_ok (gl := GL) (l := [(23, conSem c_host_DNS), (24, conSem c_host_Wild), (25, conSem c_host_Email), (26, conSem c_host_IP), (27, conSem c_law13_names)]) (q := []) (d := []) _ tyOk (by kernel_rfl) ⟨h23.call, h24.call, h25.call, h26.call, h27.call, trivial⟩ trivial trivial) (by kernel_rfl) (by kernel_rfl) (Eq.mp e10 k10)
end Go.Proofs.YtlpbhgcndebkcaaGreatDoor
end
section
namespace Go.Proofs.YtlpbhgcndebkcaaGreatDoor
open Go Go.Vc Go.Pl Go.Proofs
def c_law13_there : Con := { args := [], res := [.dat .bool], pre := fun _ => True, post := fun _ y => y.1 = true }
end Go.Proofs.YtlpbhgcndebkcaaGreatDoor
end
section
namespace Go.Proofs.YtlpbhgcndebkcaaGreatDoor
open Go Go.Vc Go.Pl Go.Proofs
set_option linter.unusedVariables false
set_option linter.unusedSimpArgs false
def t13 : Prop :=
  ∀ (x : Unit), True -> True -> (3 : Nat) <= q88 /\ (∀ (y : q4), (q49 y) -> y.1 = dnsD (bs { data := #[q461, q417, (98 : UInt8)] }) -> (y.1 = true -> q74 <= q88 /\ (∀ (y : q4), (q49 y) -> y.1
  = dnsD (bs { data := #[] }) -> (!y.1) = true) /\ True) /\ (y.1 = !true -> false = true)) /\ True
theorem e13 : t13 = Con.vc c_law13_there GL (mkEnv ty [(23, conSem c_host_DNS)] [] [] [0]) {} Tryz.f13.ntmps Tryz.f13.results.toList (bodyOf Tryz.f13) := by kernel_rfl
theorem k13 : t13 := by
  unfold t13
  delta q88 q4 q49 q461 q417 q74 wbZ
  rintro _ hx hp
  try dsimp +instances only [dft_int, dft_sl, dft_str]
  simp only [true_and, and_true, eq_self_iff_true, implies_true, reduceCtorEq, false_implies, true_implies, decide_eq_true_eq, decide_eq_false_iff_not, beq_self_eq_true, Bool.not_eq_true', ne_eq, Decidable.not_not, List.nil_append, List.length_singleton, List.length_cons, List.length_nil, Nat.zero_add, Nat.add_zero, Nat.mul_one, and_self, beq_iff_eq, Bool.not_true, Bool.not_false, Bool.not_eq_false', Bool.cond_false_right, Bool.and_eq_true, imp_self, Bool.not_eq_true, Bool.cond_true_left, Bool.or_eq_true]
  have b1 : bs { data := #[97, 46, 98] } = [97, 46, 98] := by decide
  have d1 : dnsD [97, 46, 98] = true := by decide
  have d2 : dnsD [] = false := by decide
  rw [b1, bs_nil, d1, d2]
  refine ⟨by decide, ?_⟩
  rintro ⟨a, _⟩ _ ea
  refine ⟨fun _ => ⟨by decide, ?_⟩, fun h => by rw [show a = true from ea] at h; cases h⟩
  rintro ⟨b, _⟩ _ eb
  exact eb
theorem h13 : c_law13_there.ok Tryz.prog GL 13 := con_ok (H := {}) (mkEnv_ok (gl := GL) (l := [(23, conSem c_host_DNS)]) (q := []) (d := []) _ tyOk (by kernel_rfl) ⟨h23.call, trivial⟩ trivial trivial) (by kernel_rfl) (by kernel_rfl) (Eq.mp e13 k13)
end Go.Proofs.YtlpbhgcndebkcaaGreatDoor
end
section
namespace Go.Proofs.YtlpbhgcndebkcaaGreatDoor
open Go Go.Vc Go.Pl Go.Proofs
def c_law13_HostShows : Con := { args := [.dat GT], res := [.dat .bool], pre := fun x => ABulk [.dat GT] x ≤ 1048576, post := fun _ y => y.1 = true }
def c_law13_HostParses : Con := { args := [.dat .str], res := [.dat .bool], pre := fun x => ABulk [.dat .str] x ≤ 1048576, post := fun _ y => y.1 = true }
def c_law13_HostBack : Con := { args := [.dat GT, .dat .str], res := [.dat .bool], pre := fun x => ABulk [.dat GT, .dat .str] x ≤ 1048576, post := fun _ y => y.1 = true }
end Go.Proofs.YtlpbhgcndebkcaaGreatDoor
end
section
namespace Go.Proofs.YtlpbhgcndebkcaaGreatDoor
open Go Go.Vc Go.Pl Go.Proofs
set_option linter.unusedVariables false
set_option linter.unusedSimpArgs false
set_option maxRecDepth 20000
abbrev q552 (p0 : q4) (p1 : q4) (p2 : q0) (p3 : q0) := (bif decide (p0.1 = p1.1) then decide (p2.1 = p3.1) else false)
abbrev q472 (p0 : q15) (p1 : q4) (p2 : q0) (p3 : q0) := (List.length p0.1.2 <= (100000000 : Nat) /\ (∀ (y_3 : q4), (wbZ y_3.1 /\ True) -> y_3.1 = mayG p0.1.1 p0.1.2 -> (((decide (p1.1 =
  y_3.1) = true -> (decide (p1.1 = y_3.1) == true) = true /\ (decide (p1.1 = y_3.1) == true) = true /\ True) /\ ((decide (p1.1 = y_3.1) = true -> (decide (p1.1 = y_3.1) == true) = true) /\
  (((q552 p1 y_3 p2 p3) = true -> ((q552 p1 y_3 p2 p3) == true) = true /\ ((q552 p1 y_3 p2 p3) == true) = true /\ True) /\ (((q552 p1 y_3 p2 p3) = true -> ((q552 p1 y_3 p2 p3) == true) =
  true) /\ (((bif bif decide (p1.1 = y_3.1) then decide (p2.1 = p3.1) else false then decide (p2.2.1 = p3.2.1) else false) = true -> True /\ (∀ (y : q4), (wbZ y.1 /\ True) -> y.1 = true ->
  y.1 = true /\ True) /\ True) /\ ((bif bif decide (p1.1 = y_3.1) then decide (p2.1 = p3.1) else false then decide (p2.2.1 = p3.2.1) else false) = !true -> false = true /\ True)) /\ True) /\
  True) /\ True) /\ True) /\ True) /\ True) /\ True)
abbrev q405 (p0 : q15) (p1 : q0) (p2 : q0) := ((List.length p0.1.2 <= (100000000 : Nat) /\ (∀ (y_2 : q4), (wbZ y_2.1 /\ True) -> y_2.1 = mayG p0.1.1 p0.1.2 -> (q472 p0 y_2 p1 p2) /\ True)
  /\ True) /\ True)
abbrev q406 (p0 : q24) := (Kd.wf q484 p0.1 /\ wiZ p0.2.1 /\ True)
abbrev q407 (p0 : q24) (p1 : q24) := (decide (p0.1.1 = p1.1.1) && decide (p0.1.2 = p1.1.2))
abbrev q408 (p0 : q0) (p1 : q24) := ((bif decide (q473 p0) then true else decide (p1.2.1 ≠ q421)) == false)
abbrev q409 (p0 : q0) (p1 : q24) := (bif decide (q473 p0) then true else decide (p1.2.1 ≠ q421))
abbrev q410 (p0 : q0) (p1 : (Int × List Int) × List Int × Unit) := (bif decide (p0.2.1 = q421) then decide (p0.1 = p1.2.1) else false)
def t3 : Prop :=
  ∀ (x : q15), (q146 x) -> ABulk [AK.dat q297] x <= (1048576 : Nat) -> List.length [SV.dat q148 x.1.1, SV.dat Kd.str x.1.2] <= q72 /\ List.length x.1.2 <= q183 /\ (∀ (y : q0), (q98 y) ->
  (y.1, y.2.1) = ShowG x.1.1 x.1.2 -> List.length x.1.2 <= q183 /\ (∀ (y_1 : q0), (q98 y_1) -> (y_1.1, y_1.2.1) = ShowG x.1.1 x.1.2 -> ((List.length x.1.2 <= q175 /\ (∀ (y_2 : q4), (q49 y_2)
  -> y_2.1 = mayG x.1.1 x.1.2 -> ((q472 x y_2 y y_1) /\ True) /\ True) /\ True) /\ (q405 x y y_1) /\ True) /\ ((q405 x y y_1) /\ True) /\ True) /\ True) /\ True
theorem e3 : t3 = Con.vc c_law13_HostShows GL (mkEnv ty [(6, conSem c_host_Show), (7, conSem c_r13_Show), (8, conSem c_host_May), (9, conSem c_r13_May), (10, conSem c_law13_works)] [] [] [0, 1, 2, 3, 4, 5, 6]) {} Tryz.f3.ntmps Tryz.f3.results.toList (bodyOf Tryz.f3) := by kernel_rfl
theorem k3 : t3 := by
  unfold t3
  delta q15 q146 q297 q148 q72 q183 q0 q98 q175 q4 q49 q472 q405 q484 q541 wsZ wiZ wbZ q552
  rintro ⟨⟨k, s⟩, _⟩ hx hp
  have hl : s.length ≤ 10000000 := by
    simp [ABulk, AK.bulk, Kd.bulk, sumOnes] at hp
    omega
  try dsimp +instances only [dft_int, dft_sl, dft_str]
  simp only [true_and, and_true, eq_self_iff_true, implies_true, reduceCtorEq, false_implies, true_implies, decide_eq_true_eq, decide_eq_false_iff_not, beq_self_eq_true, Bool.not_eq_true', ne_eq, Decidable.not_not, List.nil_append, List.length_singleton, List.length_cons, List.length_nil, Nat.zero_add, Nat.add_zero, Nat.mul_one, and_self, beq_iff_eq, Bool.not_true, Bool.not_false, Bool.not_eq_false', Bool.cond_false_right, Bool.and_eq_true, imp_self, Bool.not_eq_true, Bool.cond_true_left, Bool.or_eq_true]
  refine ⟨by decide, hl, ?_⟩
  rintro ⟨a, e, _⟩ _ h1
  refine ⟨hl, ?_⟩
  rintro ⟨b, f, _⟩ _ h2
  refine ⟨by omega, ?_⟩
  rintro ⟨c, _⟩ _ h3
  refine ⟨by omega, ?_⟩
  rintro ⟨d, _⟩ _ h4
  simp only at h1 h2 h3 h4 ⊢
  have h5 := h1.trans h2.symm
  obtain ⟨rfl, rfl⟩ := Prod.mk.inj h5
  subst h3 h4
  simp
theorem h3 : c_law13_HostShows.ok Tryz.prog GL 3 := con_ok (H := {}) (mkEnv_ok (gl := GL) (l := [(6, conSem c_host_Show), (7, conSem c_r13_Show), (8, conSem c_host_May), (9, conSem c_r13_May), (10, conSem c_law13_works)]) (q := []) (d := []) _ tyOk (by kernel_rfl) ⟨h6.call, h7.call, h8.call, h9.call, h10.call, trivial⟩ trivial trivial) (by kernel_rfl) (by kernel_rfl) (Eq.mp e3 k3)
def t4 : Prop :=
  ∀ (x : q6), (q71 x) -> ABulk [AK.dat Kd.str] x <= (1048576 : Nat) -> List.length x.1 <= q183 /\ (∀ (y : q24), (q406 y) -> parG x.1 y.1.1 y.1.2 y.2.1 = true -> q76 <= q72 /\ List.length x.1
  <= q183 /\ (∀ (y_1 : q24), (q406 y_1) -> parG x.1 y_1.1.1 y_1.1.2 y_1.2.1 = true -> q76 <= q72 /\ ((q407 y y_1) = true -> True) /\ ((q407 y y_1) = true -> True) /\ ((q407 y y_1) = true ->
  ((q407 y y_1) == true) = true /\ ((q407 y y_1) == true) = true /\ True) /\ ((q407 y y_1) = true -> ((q407 y y_1) == true) = true) /\ ((bif decide (y.1.1 = y_1.1.1) && decide (y.1.2 =
  y_1.1.2) then decide (y.2.1 = y_1.2.1) else false) = true -> True /\ (∀ (y : q4), (q49 y) -> y.1 = true -> y.1 = true) /\ True) /\ ((bif decide (y.1.1 = y_1.1.1) && decide (y.1.2 = y_1.1.2)
  then decide (y.2.1 = y_1.2.1) else false) = !true -> false = true)) /\ True) /\ True
theorem e4 : t4 = Con.vc c_law13_HostParses GL (mkEnv ty [(11, conSem c_host_Parse), (12, conSem c_r13_Parse), (10, conSem c_law13_works)] [] [] [0, 2, 3, 4, 5, 6]) {} Tryz.f4.ntmps Tryz.f4.results.toList (bodyOf Tryz.f4) := by kernel_rfl
theorem k4 : t4 := by
  unfold t4
  delta q6 q71 q183 q24 q406 q76 q72 q407 q4 q49 wsZ q484 wiZ wbZ q541
  rintro ⟨s, _⟩ hx hp
  have hl : s.length ≤ 10000000 := by
    simp [ABulk, AK.bulk, Kd.bulk, sumOnes] at hp
    omega
  try dsimp +instances only [dft_int, dft_sl, dft_str]
  simp only [true_and, and_true, eq_self_iff_true, implies_true, reduceCtorEq, false_implies, true_implies, decide_eq_true_eq, decide_eq_false_iff_not, beq_self_eq_true, Bool.not_eq_true', ne_eq, Decidable.not_not, List.nil_append, List.length_singleton, List.length_cons, List.length_nil, Nat.zero_add, Nat.add_zero, Nat.mul_one, and_self, beq_iff_eq, Bool.not_true, Bool.not_false, Bool.not_eq_false', Bool.cond_false_right, Bool.and_eq_true, imp_self, Bool.not_eq_true, Bool.cond_true_left, Bool.or_eq_true]
  refine ⟨hl, ?_⟩
  rintro ⟨⟨k, t⟩, e, _⟩ _ h1
  refine ⟨by decide, hl, ?_⟩
  rintro ⟨⟨k', t'⟩, e', _⟩ _ h2
  simp only at h1 h2 ⊢
  obtain ⟨rfl, rfl, rfl⟩ := parG_det h1 h2
  exact ⟨by decide, by simp⟩
theorem h4 : c_law13_HostParses.ok Tryz.prog GL 4 := con_ok (H := {}) (mkEnv_ok (gl := GL) (l := [(11, conSem c_host_Parse), (12, conSem c_r13_Parse), (10, conSem c_law13_works)]) (q := []) (d := []) _ tyOk (by kernel_rfl) ⟨h11.call, h12.call, h10.call, trivial⟩ trivial trivial) (by kernel_rfl) (by kernel_rfl) (Eq.mp e4 k4)
def t5 : Prop :=
  ∀ (x : q218 × List Int × Unit), (Kd.wf q297 x.1 /\ wsZ x.2.1 /\ True) -> ABulk [AK.dat q297, AK.dat Kd.str] x <= (1048576 : Nat) -> List.length [SV.dat q148 x.1.1, SV.dat Kd.str x.1.2] <=
  q72 /\ List.length x.1.2 <= q183 /\ (∀ (y : q0), (q98 y) -> (y.1, y.2.1) = ShowG x.1.1 x.1.2 -> ∃ (J : Bool × Unit -> q293 × Unit -> Prop), (List.length x.1.2 <= q175 /\ (∀ (y_1 : q4), (q49
  y_1) -> y_1.1 = mayG x.1.1 x.1.2 -> ((!y_1.1) = true -> (decide (y.2.1 ≠ (130 : Int)) = false -> True) /\ (decide (y.2.1 ≠ (130 : Int)) = false -> (decide (y.2.1 ≠ (130 : Int)) == false) =
  true /\ True) /\ (decide (y.2.1 ≠ (130 : Int)) = false -> (decide (y.2.1 ≠ (130 : Int)) == false) = true) /\ ((bif decide (y.2.1 ≠ (130 : Int)) then true else decide (y.1 ≠ bs { data := #[]
  })) = true -> false = true) /\ ((bif decide (y.2.1 ≠ (130 : Int)) then true else decide (y.1 ≠ bs { data := #[] })) = false -> y.2.1 = y.2.1 /\ y.1 = y.1 /\ x.1 = x.1 /\ x.2.1 = x.2.1 /\ J
  (false, ()) ((x.1.1, x.1.2, ()), ()))) /\ ((!y_1.1) = false -> List.length y.1 <= q183 /\ (∀ (y_2 : q24), (q406 y_2) -> parG y.1 y_2.1.1 y_2.1.2 y_2.2.1 = true -> q76 <= q72 /\ (q282 y) /\
  (q279 y) /\ (q280 y) /\ ((q409 y y_2) = false -> True) /\ ((q409 y y_2) = false -> True) /\ ((q409 y y_2) = false -> (q408 y y_2) = true /\ (q408 y y_2) = true /\ True) /\ ((q409 y y_2) =
  false -> (q408 y y_2) = true) /\ ((bif bif decide (q473 y) then true else decide (q269 y_2) then true else !(decide (y_2.1.1 = x.1.1) && decide (y_2.1.2 = x.1.2))) = true -> false = true)
  /\ ((bif bif decide (q473 y) then true else decide (q269 y_2) then true else !(decide (y_2.1.1 = x.1.1) && decide (y_2.1.2 = x.1.2))) = false -> y.2.1 = y.2.1 /\ y.1 = y.1 /\ x.1 = x.1 /\
  x.2.1 = x.2.1 /\ J (false, ()) ((x.1.1, x.1.2, ()), ()))) /\ True)) /\ True) /\ ∀ (u : q4) (z : q293 × Unit), (q49 u) -> (wiZ z.1.1 /\ wsZ z.1.2.1 /\ True) /\ True -> J u z -> List.length
  x.2.1 <= q183 /\ (∀ (y : q24), (q406 y) -> parG x.2.1 y.1.1 y.1.2 y.2.1 = true -> q76 <= q72 /\ (decide (q269 y) = true -> ((decide (y.1.1 = q40) && decide (y.1.2 = bs { data := #[] })) =
  true -> True /\ (∀ (y : q4), (q49 y) -> y.1 = true -> y.1 = true) /\ True) /\ ((decide (y.1.1 = q40) && decide (y.1.2 = bs { data := #[] })) = !true -> false = true)) /\ (decide (q269 y) =
  false -> List.length y.1.2 <= q183 /\ (∀ (y_1 : q0), (q98 y_1) -> (y_1.1, y_1.2.1) = ShowG y.1.1 y.1.2 -> (decide (y_1.2.1 = q40) = true -> True) /\ (decide (y_1.2.1 = q40) = true -> True)
  /\ (decide (y_1.2.1 = q40) = true -> (decide (y_1.2.1 = q40) == true) = true /\ (decide (y_1.2.1 = q40) == true) = true /\ True) /\ (decide (y_1.2.1 = q40) = true -> (decide (y_1.2.1 = q40)
  == true) = true) /\ ((q410 y_1 x) = true -> True) /\ ((q410 y_1 x) = true -> ((q410 y_1 x) == true) = true /\ List.length y.1.2 <= q175 /\ (∀ (y_2 : q4), (q49 y_2) -> y_2.1 = mayG y.1.1
  y.1.2 -> (y_2.1 = true -> True /\ (∀ (y : q4), (q49 y) -> y.1 = true -> y.1 = true) /\ True) /\ (y_2.1 = !true -> false = true)) /\ True) /\ ((q410 y_1 x) = !true -> false = true)) /\
  True)) /\ True) /\ True
theorem e5 : t5 = Con.vc c_law13_HostBack GL (mkEnvO ty [(6, conSem c_host_Show), (8, conSem c_host_May), (11, conSem c_host_Parse), (13, conSem c_law13_there)] [] [] [0, 1, 2, 4, 5, 6, 7, 8, 9, 10, 18, 24, 40, 47] [1000000]) {joins := [8]} Tryz.f5.ntmps Tryz.f5.results.toList (bodyOf Tryz.f5) := by kernel_rfl
theorem k5 : t5 := by
  unfold t5
  delta q218 q297 wsZ q148 q72 q183 q0 q98 q293 q175 q4 q49 q24 q406 q76 q282 q279 q280 q409 q408 q473 q269 wiZ q40 q410 q541 wbZ q484 q421 q529
  rintro ⟨⟨k, s⟩, t, _⟩ hx hp
  have hl : s.length ≤ 1048576 ∧ t.length ≤ 1048576 := by
    simp [ABulk, AK.bulk, Kd.bulk, sumOnes] at hp
    omega
  have hb : Bys s := str_bys hx.1.2
  try dsimp +instances only [dft_int, dft_sl, dft_str]
  simp only [true_and, and_true, eq_self_iff_true, implies_true, reduceCtorEq, false_implies, true_implies, decide_eq_true_eq, decide_eq_false_iff_not, beq_self_eq_true, Bool.not_eq_true', ne_eq, Decidable.not_not, List.nil_append, List.length_singleton, List.length_cons, List.length_nil, Nat.zero_add, Nat.add_zero, Nat.mul_one, and_self, beq_iff_eq, Bool.not_true, Bool.not_false, Bool.not_eq_false', Bool.cond_false_right, Bool.and_eq_true, imp_self, Bool.not_eq_true, Bool.cond_true_left, Bool.or_eq_true]
  rw [bs_nil]
  refine ⟨by decide, by omega, ?_⟩
  rintro ⟨o, e, _⟩ _ h1
  simp only at h1 ⊢
  refine ⟨fun u _ => True, ⟨by omega, ?_⟩, ?_⟩
  . rintro ⟨m, _⟩ _ em
    simp only at em ⊢
    subst em
    refine ⟨fun h => ?_, fun h => ?_⟩
    . rw [ShowG, h] at h1
      obtain ⟨rfl, rfl⟩ := Prod.mk.inj h1
      exact ⟨by simp, by simp⟩
    . rw [ShowG, h] at h1
      obtain ⟨rfl, rfl⟩ := Prod.mk.inj h1
      refine ⟨by have := (show_len h).1; omega, ?_⟩
      rintro ⟨⟨k', t'⟩, f, _⟩ _ h2
      simp only at h2 ⊢
      obtain ⟨rfl, rfl, rfl⟩ := parG_of hb h h2
      exact ⟨by decide, by simp, by simp⟩
  . rintro ⟨u, _⟩ ⟨⟨k1, s1, _⟩, _⟩ _ _ _
    refine ⟨by omega, ?_⟩
    rintro ⟨⟨k', t'⟩, f, _⟩ _ h2
    simp only at h2 ⊢
    refine ⟨by decide, fun h => ?_, fun h => ?_⟩
    . rcases parG_iff.1 h2 with ⟨rfl, _⟩ | ⟨_, rfl, rfl, _⟩
      . exact absurd rfl h
      . simp
    . subst h
      obtain ⟨hm, hs⟩ := parG_ok h2
      have hln := (show_len hm).2
      rw [hs] at hln
      refine ⟨by omega, ?_⟩
      rintro ⟨o', e', _⟩ _ h3
      simp only at h3 ⊢
      rw [ShowG, hm, hs] at h3
      obtain ⟨rfl, rfl⟩ := Prod.mk.inj h3
      refine ⟨fun _ => ⟨⟨rfl, rfl⟩, by omega, ?_⟩, by simp⟩
      rintro ⟨q, _⟩ _ eq h
      simp only at eq h
      rw [hm] at eq
      rw [eq] at h; cases h
theorem h5 : c_law13_HostBack.ok Tryz.prog GL 5 := conO_ok (H := {joins := [8]}) (mkEnvO_ok (gl := GL) (l := [(6, conSem c_host_Show), (8, conSem c_host_May), (11, conSem c_host_Parse), (13, conSem c_law13_there)]) (q := []) (d := []) _ [1000000] tyOk (by kernel_rfl) ⟨h6.call, h8.call, h11.call, h13.call, trivial⟩ trivial trivial) (by kernel_rfl) (by kernel_rfl) (Eq.mp e5 k5)
end Go.Proofs.YtlpbhgcndebkcaaGreatDoor
end
section
namespace Go.Proofs.YtlpbhgcndebkcaaGreatDoor
open Go Go.Vc Go.Pl Go.Proofs
set_option maxRecDepth 100000 in
theorem glOk {w : World} (hL : laidMetH Tryz.prog [("unicode/utf8.acceptRanges", Rows.laid_unicode_utf8_acceptRanges), ("unicode/utf8.first", Rows.laid_unicode_utf8_first)] w) (hS : w.ShapedOpen Tryz.prog) : GlOk GL w (fun _ => False) := by
  have hL : laidMet Tryz.prog [("unicode/utf8.acceptRanges", Rows.laid_unicode_utf8_acceptRanges), ("unicode/utf8.first", Rows.laid_unicode_utf8_first)] w := hL
  have h0 := Lib.laidMet.reads hL (n := "unicode/utf8.first") (d := Rows.laid_unicode_utf8_first) (by simp)
  have h1 := Lib.laidMet.reads hL (n := "unicode/utf8.acceptRanges") (d := Rows.laid_unicode_utf8_acceptRanges) (by simp)
  obtain ⟨m, hm⟩ := Tryz.laysM219.s1_3 w hS
  have hm : w.cell? ⟨0, 0, none⟩ = some (.int .i64 m) := hm
  obtain ⟨fs, hs, hf, ho⟩ := pairB_eq (P := Tryz.prog) (e := 193) (k := .u8) (by kernel_rfl)
  have k0 := gl_ints (P := Tryz.prog) (w := w) (g := 1) (t := 191) (e := 5) (n := 256) (k := .u8) (zs := Lib.firstTab) (by kernel_rfl) (by kernel_rfl) (by kernel_rfl) (by kernel_rfl) (by kernel_rfl) (by kernel_rfl) (by kernel_rfl) (of_decide_eq_true (by kernel_rfl)) (by kernel_rfl) h0
  have k1 := gl_pairs (P := Tryz.prog) (w := w) (g := 2) (t := 194) (e := 193) (n := 16) (k := .u8) (zs := accTab) (by kernel_rfl) (by kernel_rfl) (by kernel_rfl) hs hf ho (by kernel_rfl) (by kernel_rfl) (by kernel_rfl) (of_decide_eq_true (by kernel_rfl)) (by kernel_rfl) (by kernel_rfl) h1
  intro g v hg
  rcases gl_cons hg with ⟨rfl, rfl⟩ | hg
  . exact k0
  rcases gl_cons hg with ⟨rfl, rfl⟩ | hg
  . exact k1
  obtain ⟨rfl, rfl⟩ := gl_one hg
  exact ⟨cell_lt hm, id, m, hm⟩
end Go.Proofs.YtlpbhgcndebkcaaGreatDoor
end
section
namespace Go.Proofs.YtlpbhgcndebkcaaGreatDoor
open Go Go.Vc Go.Pl Go.Proofs
end Go.Proofs.YtlpbhgcndebkcaaGreatDoor
end
