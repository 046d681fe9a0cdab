/- Texts of a verified walk, led together: HostgA, HostgW, HostrA, HostrW. -/
import Derived.Test.YtiofbnlbfmbodaaGreatDoorZW07
import Derived.Test.YtiofbnlbfmbodaaGreatDoorZV14
set_option linter.unusedVariables false
set_option linter.unusedSimpArgs false
section
namespace Go.Proofs.YtiofbnlbfmbodaaGreatDoor
open Go Go.Vc Go.Pl Go.Proofs
abbrev GT : Kd := .pair (.int .i64) .str
def kindsT : List (Int × Nat × List Int) := [(1, 130 + 1, [101, 109, 97, 105, 108, 58]), (2, 145 + 1, [100, 110, 115, 58]), (4, 147 + 1, [110, 97, 109, 101, 58]), (7, 148 + 1, [105, 112, 58])]
def c_host_kinds : Con := { args := [], res := [.dat (.mp (.pair .fn .str))], pre := fun _ => True, post := fun _ y => y.1 = kindsT }
def c_host_kinds_1 : Con := { args := [.dat .str], res := [.dat .bool], pre := fun x => x.1.length ≤ 1000000000, post := fun x y => y.1 = (dnsD x.1 || wildD x.1) }
def c_host_named : Con := { args := [.dat .str], res := [.dat .bool], pre := fun x => x.1.length ≤ 100000000, post := fun x y => y.1 = namedD x.1 }
def c_host_May : Con := { args := [.dat GT], res := [.dat .bool], pre := fun x => x.1.2.length ≤ 100000000, post := fun x y => y.1 = mayG x.1.1 x.1.2 }
end Go.Proofs.YtiofbnlbfmbodaaGreatDoor
end
section
namespace Go.Proofs.YtiofbnlbfmbodaaGreatDoor
open Go Go.Vc Go.Pl Go.Proofs
set_option linter.unusedVariables false
set_option linter.unusedSimpArgs false
set_option maxRecDepth 20000
abbrev q28 := (List (Int × List Int) × Int × Unit)
abbrev q29 := (List (Int × Nat × List Int) × Unit)
abbrev q519 (p0 : q13) (p1 : q29) := (lookB p0.1.1 p1.1 = true -> (lookB p0.1.1 p1.1 == true) = true /\ True)
abbrev q521 (p0 : q13) (p1 : q29) := (lookD (Kd.dft (Kd.pair Kd.fn Kd.str)) p0.1.1 p1.1)
abbrev q518 (p0 : q13) (p1 : q29) := (lookB p0.1.1 p1.1 = true -> (lookB p0.1.1 p1.1 == true) = true /\ (lookB p0.1.1 p1.1 == true) = true /\ ((q521 p0 p1).1 = (131 : Nat) \/ (q521 p0 p1).1
  = (146 : Nat) \/ (q521 p0 p1).1 = (148 : Nat) \/ (q521 p0 p1).1 = (149 : Nat) \/ False) /\ ((q521 p0 p1).1 = (131 : Nat) -> List.length p0.1.2 <= (1000000000 : Nat) /\ (∀ (y : q4), (wbZ y.1
  /\ True) -> y.1 = emailD p0.1.2 -> y.1 = mayG p0.1.1 p0.1.2) /\ True) /\ ((q521 p0 p1).1 = (146 : Nat) -> List.length p0.1.2 <= (1000000000 : Nat) /\ (∀ (y : q4), (wbZ y.1 /\ True) -> y.1 =
  (dnsD p0.1.2 || wildD p0.1.2) -> y.1 = mayG p0.1.1 p0.1.2) /\ True) /\ ((q521 p0 p1).1 = (148 : Nat) -> List.length p0.1.2 <= (100000000 : Nat) /\ (∀ (y : q4), (wbZ y.1 /\ True) -> y.1 =
  namedD p0.1.2 -> y.1 = mayG p0.1.1 p0.1.2) /\ True) /\ ((q521 p0 p1).1 = (149 : Nat) -> True /\ (∀ (y : q4), (wbZ y.1 /\ True) -> y.1 = ipD p0.1.2 -> y.1 = mayG p0.1.1 p0.1.2) /\ True) /\
  True)
abbrev q514 (p0 : q13) (p1 : q29) := (((lookB p0.1.1 p1.1 = true -> True) /\ (q519 p0 p1) /\ (lookB p0.1.1 p1.1 = true -> True) /\ (q519 p0 p1) /\ (q518 p0 p1) /\ (lookB p0.1.1 p1.1 = !true
  -> false = mayG p0.1.1 p0.1.2)) /\ True)
abbrev q497 (p0 : q13) (p1 : q29) := ((q514 p0 p1) /\ (q514 p0 p1) /\ True)
abbrev q498 (p0 : q13) (p1 : q29) := ((q514 p0 p1) /\ True)
abbrev q466 (p0 : q13) (p1 : q29) := ((q497 p0 p1) /\ (q498 p0 p1) /\ True)
abbrev q316 (p0 : q13) := (True /\ (∀ (y : q29), (Kd.wf (Kd.mp (Kd.pair Kd.fn Kd.str)) y.1 /\ True) -> y.1 = kindsT -> (q466 p0 y) /\ True) /\ True)
abbrev q503 (p0 : q13) (p1 : q29) := ((lookB p0.1.1 p1.1 = true -> True) /\ (q519 p0 p1) /\ (lookB p0.1.1 p1.1 = true -> True) /\ (q519 p0 p1) /\ (q518 p0 p1) /\ (lookB p0.1.1 p1.1 = !true
  -> false = mayG p0.1.1 p0.1.2))
abbrev q467 (p0 : q13) (p1 : q29) := (((2 : Nat) <= (65536 : Nat) /\ (q503 p0 p1) /\ True) /\ True)
abbrev q468 (p0 : q13) (p1 : q29) := ((q503 p0 p1) /\ True)
abbrev q317 (p0 : q13) (p1 : q29) := ((q467 p0 p1) /\ ((2 : Nat) <= q448 /\ (q468 p0 p1) /\ (q468 p0 p1) /\ True) /\ True)
abbrev q318 (p0 : q13) (p1 : q29) := ((2 : Nat) <= q448 /\ (q466 p0 p1) /\ True)
abbrev q319 (p0 : q13) (p1 : q29) := ((2 : Nat) <= q448 /\ (q497 p0 p1) /\ (q498 p0 p1) /\ True)
abbrev q320 (p0 : q13) (p1 : q29) := ((q466 p0 p1) /\ True)
abbrev q321 (p0 : q13) (p1 : q29) := ((q467 p0 p1) /\ ((2 : Nat) <= q448 /\ (q468 p0 p1) /\ True) /\ True)
abbrev q322 (p0 : q29) := (Kd.wf (Kd.mp (Kd.pair Kd.fn Kd.str)) p0.1 /\ True)
def t104 : Prop :=
  ∀ (x : Unit), True -> True -> false = false /\ (decide (q75 = q72) || false) = false /\ (decide (q73 = q72) || (decide (q73 = q75) || false)) = false /\ (decide ((7 : Int) = q72) || (decide
  ((7 : Int) = q75) || (decide ((7 : Int) = q73) || false))) = false /\ [] ++ [(q72, (131 : Nat), bs { data := #[(101 : UInt8), (109 : UInt8), (97 : UInt8), (105 : UInt8), (108 : UInt8), (58
  : UInt8)] })] ++ [(q75, (146 : Nat), bs { data := #[(100 : UInt8), (110 : UInt8), (115 : UInt8), (58 : UInt8)] })] ++ [(q73, (148 : Nat), bs { data := #[(110 : UInt8), (97 : UInt8), (109 :
  UInt8), (101 : UInt8), (58 : UInt8)] })] ++ [((7 : Int), (149 : Nat), bs { data := #[(105 : UInt8), (112 : UInt8), (58 : UInt8)] })] = kindsT
theorem e104 : t104 = Con.vc c_host_kinds GL (mkEnv ty [] [] [] [0]) {} Tryz.f104.ntmps Tryz.f104.results.toList (bodyOf Tryz.f104) := by kernel_rfl
theorem k104 : t104 := by
  unfold t104
  delta q75 q72 q73
  rintro _ hx hp
  try dsimp +instances only [dft_int, dft_sl, dft_str]
  simp only [true_and, and_true, eq_self_iff_true, implies_true, reduceCtorEq, false_implies, true_implies, decide_eq_true_eq, decide_eq_false_iff_not, beq_self_eq_true, Bool.not_eq_true', ne_eq, Decidable.not_not, List.nil_append, List.length_singleton, List.length_cons, List.length_nil, Nat.zero_add, Nat.add_zero, Nat.mul_one, and_self, beq_iff_eq, Bool.not_true, Bool.not_false, Bool.not_eq_false', Bool.cond_false_right, Bool.and_eq_true, imp_self, Bool.not_eq_true, Bool.cond_true_left, Bool.or_eq_true]
  exact ⟨by decide, by decide, by decide, by decide⟩
theorem h104 : c_host_kinds.ok Tryz.prog GL 104 := con_ok (H := {}) (mkEnv_ok (gl := GL) (l := []) (q := []) (d := []) _ tyOk (by kernel_rfl) trivial trivial trivial) (by kernel_rfl) (by kernel_rfl) (Eq.mp e104 k104)
def t145 : Prop :=
  ∀ (x : q5), (q68 x) -> List.length x.1 <= q84 -> List.length x.1 <= q84 /\ (∀ (y : q4), (q47 y) -> y.1 = dnsD x.1 -> (y.1 = false -> True) /\ (y.1 = false -> (y.1 == false) = true /\
  List.length x.1 <= q84 /\ (∀ (y : q4), (q47 y) -> y.1 = wildD x.1 -> y.1 = (dnsD x.1 || wildD x.1)) /\ True) /\ (y.1 = !false -> true = (dnsD x.1 || wildD x.1))) /\ True
theorem e145 : t145 = Con.vc c_host_kinds_1 GL (mkEnv ty [(131, conSem c_host_DNS), (146, conSem c_host_Wild)] [] [] [0, 2]) {} Tryz.f145.ntmps Tryz.f145.results.toList (bodyOf Tryz.f145) := by kernel_rfl
theorem k145 : t145 := by
  unfold t145
  delta q5 q68 q84 q4 q47 wsZ wbZ
  rintro ⟨s, _⟩ hx hp
  try dsimp +instances only [dft_int, dft_sl, dft_str]
  simp only [true_and, and_true, eq_self_iff_true, implies_true, reduceCtorEq, false_implies, true_implies, decide_eq_true_eq, decide_eq_false_iff_not, beq_self_eq_true, Bool.not_eq_true', ne_eq, Decidable.not_not, List.nil_append, List.length_singleton, List.length_cons, List.length_nil, Nat.zero_add, Nat.add_zero, Nat.mul_one, and_self, beq_iff_eq, Bool.not_true, Bool.not_false, Bool.not_eq_false', Bool.cond_false_right, Bool.and_eq_true, imp_self, Bool.not_eq_true, Bool.cond_true_left, Bool.or_eq_true]
  refine ⟨hp, ?_⟩
  rintro ⟨a, _⟩ _ ea
  simp only at ea ⊢
  subst ea
  refine ⟨fun h => ⟨h, hp, ?_⟩, fun h => by rw [h]; rfl⟩
  rintro ⟨b, _⟩ _ eb
  simp only at eb ⊢
  rw [eb, h]; rfl
theorem h145 : c_host_kinds_1.ok Tryz.prog GL 145 := con_ok (H := {}) (mkEnv_ok (gl := GL) (l := [(131, conSem c_host_DNS), (146, conSem c_host_Wild)]) (q := []) (d := []) _ tyOk (by kernel_rfl) ⟨h131.call, h146.call, trivial⟩ trivial trivial) (by kernel_rfl) (by kernel_rfl) (Eq.mp e145 k145)
def t147 : Prop :=
  ∀ (x : q5), (q68 x) -> List.length x.1 <= q155 -> lenB x.1 <= q155 /\ (∀ (y : q28), (Kd.wf q244 y.1 /\ wiZ y.2.1 /\ True) -> decQ x.1 y.1 y.2.1 = true -> decide (y.2.1 = q40) = namedD x.1)
  /\ True
theorem e147 : t147 = Con.vc c_host_named GL (mkEnv ty [(174, conSem c_name_Decode)] [] [] [0, 2, 4]) {} Tryz.f147.ntmps Tryz.f147.results.toList (bodyOf Tryz.f147) := by kernel_rfl
theorem k147 : t147 := by
  unfold t147
  delta q5 q68 q155 q28 q244 wiZ q40 wsZ q415 q494
  rintro ⟨s, _⟩ hx hp
  try dsimp +instances only [dft_int, dft_sl, dft_str]
  simp only [true_and, and_true, eq_self_iff_true, implies_true, reduceCtorEq, false_implies, true_implies, decide_eq_true_eq, decide_eq_false_iff_not, beq_self_eq_true, Bool.not_eq_true', ne_eq, Decidable.not_not, List.nil_append, List.length_singleton, List.length_cons, List.length_nil, Nat.zero_add, Nat.add_zero, Nat.mul_one, and_self, beq_iff_eq, Bool.not_true, Bool.not_false, Bool.not_eq_false', Bool.cond_false_right, Bool.and_eq_true, imp_self, Bool.not_eq_true, Bool.cond_true_left, Bool.or_eq_true]
  refine ⟨by rw [lenB]; exact hp, ?_⟩
  rintro ⟨l, e, _⟩ _ h
  exact (dec_named h).1
theorem h147 : c_host_named.ok Tryz.prog GL 147 := con_ok (H := {}) (mkEnv_ok (gl := GL) (l := [(174, conSem c_name_Decode)]) (q := []) (d := []) _ tyOk (by kernel_rfl) ⟨h174.call, trivial⟩ trivial trivial) (by kernel_rfl) (by kernel_rfl) (Eq.mp e147 k147)
def t54 : Prop :=
  ∀ (x : q13), (q138 x) -> List.length x.1.2 <= q155 -> List.length [SV.dat q140 x.1.1, SV.dat Kd.str x.1.2] <= q69 /\ (True /\ (∀ (y : q29), (q322 y) -> y.1 = kindsT -> (((q317 x y) /\ (q321
  x y) /\ (q319 x y) /\ True) /\ (q318 x y) /\ True) /\ (q74 <= q69 /\ (q320 x y) /\ True) /\ True) /\ True) /\ ((True /\ (∀ (y : q29), (q322 y) -> y.1 = kindsT -> ((q317 x y) /\ (q321 x y)
  /\ (q319 x y) /\ True) /\ (q318 x y) /\ True) /\ True) /\ (q74 <= q69 /\ (q316 x) /\ True) /\ True) /\ (q74 <= q69 /\ (True /\ (∀ (y : q29), (q322 y) -> y.1 = kindsT -> (q320 x y) /\ True)
  /\ True) /\ ((q316 x) /\ True) /\ True) /\ True
theorem e54 : t54 = Con.vc c_host_May GL (mkEnvO ty [(104, conSem c_host_kinds), (130, conSem c_host_Email), (145, conSem c_host_kinds_1), (147, conSem c_host_named), (148, conSem c_host_IP)] [] [] [0, 1, 2, 3, 4] [2000130,2000145,2000147,2000148]) {} Tryz.f54.ntmps Tryz.f54.results.toList (bodyOf Tryz.f54) := by kernel_rfl
theorem k54 : t54 := by
  unfold t54
  delta q13 q138 q155 q140 q69 q29 q322 q317 q321 q319 q318 q74 q320 q316 q415 q467 q448 q468 q497 q498 q466 q494 q503 q514 q519 q518 q521 q4 wbZ
  rintro ⟨⟨k, s⟩, _⟩ hx hp
  have hp : s.length ≤ 100000000 := hp
  have hp9 : s.length ≤ 1000000000 := by omega
  try dsimp +instances only [dft_int, dft_sl, dft_str]
  simp only [true_and, and_true, eq_self_iff_true, implies_true, reduceCtorEq, false_implies, true_implies, decide_eq_true_eq, decide_eq_false_iff_not, beq_self_eq_true, Bool.not_eq_true', ne_eq, Decidable.not_not, List.nil_append, List.length_singleton, List.length_cons, List.length_nil, Nat.zero_add, Nat.add_zero, Nat.mul_one, and_self, beq_iff_eq, Bool.not_true, Bool.not_false, Bool.not_eq_false', Bool.cond_false_right, Bool.and_eq_true, imp_self, Bool.not_eq_true, Bool.cond_true_left, Bool.or_eq_true]
  simp only [all_mp, all_bool]
  rcases (show k = 1 ∨ k = 2 ∨ k = 4 ∨ k = 7 ∨ (k ≠ 1 ∧ k ≠ 2 ∧ k ≠ 4 ∧ k ≠ 7) by omega) with rfl | rfl | rfl | rfl | ⟨a, b, c, d⟩
  . simp [kindsT, lookB, lookD, mayG, hp, hp9]
  . simp [kindsT, lookB, lookD, mayG, hp, hp9]
  . simp [kindsT, lookB, lookD, mayG, hp, hp9]
  . simp [kindsT, lookB, lookD, mayG, hp, hp9]
  . simp [kindsT, lookB, lookD, mayG, hp, hp9, a, b, c, d]
theorem h54 : c_host_May.ok Tryz.prog GL 54 := conO_ok (H := {}) (mkEnvO_ok (gl := GL) (l := [(104, conSem c_host_kinds), (130, conSem c_host_Email), (145, conSem c_host_kinds_1), (147, conSem c_host_named), (148, conSem c_host_IP)]) (q := []) (d := []) _ [2000130,2000145,2000147,2000148] tyOk (by kernel_rfl) ⟨h104.call, h130.call, h145.call, h147.call, h148.call, trivial⟩ trivial trivial) (by kernel_rfl) (by kernel_rfl) (Eq.mp e54 k54)
end Go.Proofs.YtiofbnlbfmbodaaGreatDoor
end
section
namespace Go.Proofs.YtiofbnlbfmbodaaGreatDoor
open Go Go.Vc Go.Pl Go.Proofs
end Go.Proofs.YtiofbnlbfmbodaaGreatDoor
end
section
namespace Go.Proofs.YtiofbnlbfmbodaaGreatDoor
open Go Go.Vc Go.Pl Go.Proofs
set_option linter.unusedVariables false
set_option linter.unusedSimpArgs false
set_option maxRecDepth 20000
end Go.Proofs.YtiofbnlbfmbodaaGreatDoor
end
