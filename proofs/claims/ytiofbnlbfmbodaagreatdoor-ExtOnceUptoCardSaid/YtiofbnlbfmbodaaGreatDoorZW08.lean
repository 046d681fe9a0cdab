/- Texts of a verified walk, led together: HostgA, HostgW, HostrA, HostrW. -/
import Derived.Test.YtiofbnlbfmbodaaGreatDoorZW07
import Derived.Test.YtiofbnlbfmbodaaGreatDoorZV14
set_option linter.unusedVariables false
set_option linter.unusedSimpArgs false
section
namespace Go.Proofs.YtiofbnlbfmbodaaGreatDoor
open Go Go.Vc Go.Pl Go.Proofs
abbrev GT : Kd := .pair (.int .i64) .str
def kindsT : List (Int × Nat × List Int) := [(1, 130 + 1, [101, 109, 97, 105, 108, 58]), (2, 145 + 1, [100, 110, 115, 58]), (4, 147 + 1, [110, 97, 109, 101, 58]), (7, 148 + 1, [105, 112, 58])]
def c_host_kinds : Con := { args := [], res := [.dat (.mp (.pair .fn .str))], pre := fun _ => True, post := fun _ y => y.1 = kindsT }
def c_host_kinds_1 : Con := { args := [.dat .str], res := [.dat .bool], pre := fun x => x.1.length ≤ 1000000000, post := fun x y => y.1 = (dnsD x.1 || wildD x.1) }
def c_host_named : Con := { args := [.dat .str], res := [.dat .bool], pre := fun x => x.1.length ≤ 100000000, post := fun x y => y.1 = namedD x.1 }
def c_host_May : Con := { args := [.dat GT], res := [.dat .bool], pre := fun x => x.1.2.length ≤ 100000000, post := fun x y => y.1 = mayG x.1.1 x.1.2 }
end Go.Proofs.YtiofbnlbfmbodaaGreatDoor
end
section
namespace Go.Proofs.YtiofbnlbfmbodaaGreatDoor
open Go Go.Vc Go.Pl Go.Proofs
set_option linter.unusedVariables false
set_option linter.unusedSimpArgs false
set_option maxRecDepth 20000
abbrev q20 := (List (Int × List Int) × Int × Unit)
abbrev q21 := (List (Int × Nat × List Int) × Unit)
abbrev q462 (p0 : q10) (p1 : q21) := (lookB p0.1.1 p1.1 = true -> (lookB p0.1.1 p1.1 == true) = true /\ True)
abbrev q464 (p0 : q10) (p1 : q21) := (lookD (Kd.dft (Kd.pair Kd.fn Kd.str)) p0.1.1 p1.1)
abbrev q461 (p0 : q10) (p1 : q21) := (lookB p0.1.1 p1.1 = true -> (lookB p0.1.1 p1.1 == true) = true /\ (lookB p0.1.1 p1.1 == true) = true /\ ((q464 p0 p1).1 = (131 : Nat) \/ (q464 p0 p1).1
  = (146 : Nat) \/ (q464 p0 p1).1 = (148 : Nat) \/ (q464 p0 p1).1 = (149 : Nat) \/ False) /\ ((q464 p0 p1).1 = (131 : Nat) -> List.length p0.1.2 <= (1000000000 : Nat) /\ (∀ (y : q4), (wbZ y.1
  /\ True) -> y.1 = emailD p0.1.2 -> y.1 = mayG p0.1.1 p0.1.2) /\ True) /\ ((q464 p0 p1).1 = (146 : Nat) -> List.length p0.1.2 <= (1000000000 : Nat) /\ (∀ (y : q4), (wbZ y.1 /\ True) -> y.1 =
  (dnsD p0.1.2 || wildD p0.1.2) -> y.1 = mayG p0.1.1 p0.1.2) /\ True) /\ ((q464 p0 p1).1 = (148 : Nat) -> List.length p0.1.2 <= (100000000 : Nat) /\ (∀ (y : q4), (wbZ y.1 /\ True) -> y.1 =
  namedD p0.1.2 -> y.1 = mayG p0.1.1 p0.1.2) /\ True) /\ ((q464 p0 p1).1 = (149 : Nat) -> True /\ (∀ (y : q4), (wbZ y.1 /\ True) -> y.1 = ipD p0.1.2 -> y.1 = mayG p0.1.1 p0.1.2) /\ True) /\
  True)
abbrev q457 (p0 : q10) (p1 : q21) := (((lookB p0.1.1 p1.1 = true -> True) /\ (q462 p0 p1) /\ (lookB p0.1.1 p1.1 = true -> True) /\ (q462 p0 p1) /\ (q461 p0 p1) /\ (lookB p0.1.1 p1.1 = !true
  -> false = mayG p0.1.1 p0.1.2)) /\ True)
abbrev q431 (p0 : q10) (p1 : q21) := ((q457 p0 p1) /\ (q457 p0 p1) /\ True)
abbrev q432 (p0 : q10) (p1 : q21) := ((q457 p0 p1) /\ True)
abbrev q392 (p0 : q10) (p1 : q21) := ((q431 p0 p1) /\ (q432 p0 p1) /\ True)
abbrev q195 (p0 : q10) := (True /\ (∀ (y : q21), (Kd.wf (Kd.mp (Kd.pair Kd.fn Kd.str)) y.1 /\ True) -> y.1 = kindsT -> (q392 p0 y) /\ True) /\ True)
abbrev q443 (p0 : q10) (p1 : q21) := ((lookB p0.1.1 p1.1 = true -> True) /\ (q462 p0 p1) /\ (lookB p0.1.1 p1.1 = true -> True) /\ (q462 p0 p1) /\ (q461 p0 p1) /\ (lookB p0.1.1 p1.1 = !true
  -> false = mayG p0.1.1 p0.1.2))
abbrev q393 (p0 : q10) (p1 : q21) := (((2 : Nat) <= (65536 : Nat) /\ (q443 p0 p1) /\ True) /\ True)
abbrev q394 (p0 : q10) (p1 : q21) := ((q443 p0 p1) /\ True)
abbrev q196 (p0 : q10) (p1 : q21) := ((q393 p0 p1) /\ ((2 : Nat) <= (65536 : Nat) /\ (q394 p0 p1) /\ (q394 p0 p1) /\ True) /\ True)
abbrev q197 (p0 : q10) (p1 : q21) := ((2 : Nat) <= (65536 : Nat) /\ (q392 p0 p1) /\ True)
abbrev q198 (p0 : q10) (p1 : q21) := ((2 : Nat) <= (65536 : Nat) /\ (q431 p0 p1) /\ (q432 p0 p1) /\ True)
abbrev q199 (p0 : q10) (p1 : q21) := ((q392 p0 p1) /\ True)
abbrev q200 (p0 : q10) (p1 : q21) := ((q393 p0 p1) /\ ((2 : Nat) <= (65536 : Nat) /\ (q394 p0 p1) /\ True) /\ True)
abbrev q201 (p0 : q21) := (Kd.wf (Kd.mp (Kd.pair Kd.fn Kd.str)) p0.1 /\ True)
def t104 : Prop :=
  ∀ (x : Unit), True -> True -> false = false /\ (decide (q67 = q62) || false) = false /\ (decide (q64 = q62) || (decide (q64 = q67) || false)) = false /\ (decide (q415 = q62) || (decide
  (q415 = q67) || (decide (q415 = q64) || false))) = false /\ [] ++ [(q62, (131 : Nat), bs { data := #[(101 : UInt8), (109 : UInt8), (97 : UInt8), (105 : UInt8), (108 : UInt8), (58 : UInt8)]
  })] ++ [(q67, (146 : Nat), bs { data := #[(100 : UInt8), (110 : UInt8), (115 : UInt8), (58 : UInt8)] })] ++ [(q64, (148 : Nat), bs { data := #[(110 : UInt8), (97 : UInt8), (109 : UInt8),
  (101 : UInt8), (58 : UInt8)] })] ++ [(q415, (149 : Nat), bs { data := #[(105 : UInt8), (112 : UInt8), (58 : UInt8)] })] = kindsT
theorem e104 : t104 = Con.vc c_host_kinds GL (mkEnv ty [] [] [] [0]) {} Tryz.f104.ntmps Tryz.f104.results.toList (bodyOf Tryz.f104) := by kernel_rfl
theorem k104 : t104 := by
  unfold t104
  delta q67 q62 q64 q415
  rintro _ hx hp
  try dsimp +instances only [dft_int, dft_sl, dft_str]
  simp only [true_and, and_true, eq_self_iff_true, implies_true, reduceCtorEq, false_implies, true_implies, decide_eq_true_eq, decide_eq_false_iff_not, beq_self_eq_true, Bool.not_eq_true', ne_eq, Decidable.not_not, List.nil_append, List.length_singleton, List.length_cons, List.length_nil, Nat.zero_add, Nat.add_zero, Nat.mul_one, and_self, beq_iff_eq, Bool.not_true, Bool.not_false, Bool.not_eq_false', Bool.cond_false_right, Bool.and_eq_true, imp_self, Bool.not_eq_true, Bool.cond_true_left, Bool.or_eq_true]
  exact ⟨by decide, by decide, by decide, by decide⟩
theorem h104 : c_host_kinds.ok Tryz.prog GL 104 := con_ok (H := {}) (mkEnv_ok (gl := GL) (l := []) (q := []) (d := []) _ tyOk (by kernel_rfl) trivial trivial trivial) (by kernel_rfl) (by kernel_rfl) (Eq.mp e104 k104)
def t145 : Prop :=
  ∀ (x : q5), (wsZ x.1 /\ True) -> List.length x.1 <= q95 -> List.length x.1 <= q95 /\ (∀ (y : q4), (q41 y) -> y.1 = dnsD x.1 -> (y.1 = false -> True) /\ (y.1 = false -> (y.1 == false) = true
  /\ List.length x.1 <= q95 /\ (∀ (y : q4), (q41 y) -> y.1 = wildD x.1 -> y.1 = (dnsD x.1 || wildD x.1)) /\ True) /\ (y.1 = !false -> true = (dnsD x.1 || wildD x.1))) /\ True
theorem e145 : t145 = Con.vc c_host_kinds_1 GL (mkEnv ty [(131, conSem c_host_DNS), (146, conSem c_host_Wild)] [] [] [0, 2]) {} Tryz.f145.ntmps Tryz.f145.results.toList (bodyOf Tryz.f145) := by kernel_rfl
theorem k145 : t145 := by
  unfold t145
  delta q5 wsZ q95 q4 q41 wbZ
  rintro ⟨s, _⟩ hx hp
  try dsimp +instances only [dft_int, dft_sl, dft_str]
  simp only [true_and, and_true, eq_self_iff_true, implies_true, reduceCtorEq, false_implies, true_implies, decide_eq_true_eq, decide_eq_false_iff_not, beq_self_eq_true, Bool.not_eq_true', ne_eq, Decidable.not_not, List.nil_append, List.length_singleton, List.length_cons, List.length_nil, Nat.zero_add, Nat.add_zero, Nat.mul_one, and_self, beq_iff_eq, Bool.not_true, Bool.not_false, Bool.not_eq_false', Bool.cond_false_right, Bool.and_eq_true, imp_self, Bool.not_eq_true, Bool.cond_true_left, Bool.or_eq_true]
  refine ⟨hp, ?_⟩
  rintro ⟨a, _⟩ _ ea
  simp only at ea ⊢
  subst ea
  refine ⟨fun h => ⟨h, hp, ?_⟩, fun h => by rw [h]; rfl⟩
  rintro ⟨b, _⟩ _ eb
  simp only at eb ⊢
  rw [eb, h]; rfl
theorem h145 : c_host_kinds_1.ok Tryz.prog GL 145 := con_ok (H := {}) (mkEnv_ok (gl := GL) (l := [(131, conSem c_host_DNS), (146, conSem c_host_Wild)]) (q := []) (d := []) _ tyOk (by kernel_rfl) ⟨h131.call, h146.call, trivial⟩ trivial trivial) (by kernel_rfl) (by kernel_rfl) (Eq.mp e145 k145)
def t147 : Prop :=
  ∀ (x : q5), (wsZ x.1 /\ True) -> List.length x.1 <= q149 -> lenB x.1 <= q149 /\ (∀ (y : q20), (Kd.wf q169 y.1 /\ wiZ y.2.1 /\ True) -> decQ x.1 y.1 y.2.1 = true -> decide (y.2.1 = q34) =
  namedD x.1) /\ True
theorem e147 : t147 = Con.vc c_host_named GL (mkEnv ty [(174, conSem c_name_Decode)] [] [] [0, 2, 4]) {} Tryz.f147.ntmps Tryz.f147.results.toList (bodyOf Tryz.f147) := by kernel_rfl
theorem k147 : t147 := by
  unfold t147
  delta q5 wsZ q149 q20 q169 wiZ q34 q388 q425
  rintro ⟨s, _⟩ hx hp
  try dsimp +instances only [dft_int, dft_sl, dft_str]
  simp only [true_and, and_true, eq_self_iff_true, implies_true, reduceCtorEq, false_implies, true_implies, decide_eq_true_eq, decide_eq_false_iff_not, beq_self_eq_true, Bool.not_eq_true', ne_eq, Decidable.not_not, List.nil_append, List.length_singleton, List.length_cons, List.length_nil, Nat.zero_add, Nat.add_zero, Nat.mul_one, and_self, beq_iff_eq, Bool.not_true, Bool.not_false, Bool.not_eq_false', Bool.cond_false_right, Bool.and_eq_true, imp_self, Bool.not_eq_true, Bool.cond_true_left, Bool.or_eq_true]
  refine ⟨by rw [lenB]; exact hp, ?_⟩
  rintro ⟨l, e, _⟩ _ h
  exact (dec_named h).1
theorem h147 : c_host_named.ok Tryz.prog GL 147 := con_ok (H := {}) (mkEnv_ok (gl := GL) (l := [(174, conSem c_name_Decode)]) (q := []) (d := []) _ tyOk (by kernel_rfl) ⟨h174.call, trivial⟩ trivial trivial) (by kernel_rfl) (by kernel_rfl) (Eq.mp e147 k147)
def t54 : Prop :=
  ∀ (x : q10), (Kd.wf q89 x.1 /\ True) -> List.length x.1.2 <= q149 -> List.length [SV.dat q90 x.1.1, SV.dat Kd.str x.1.2] <= q61 /\ (True /\ (∀ (y : q21), (q201 y) -> y.1 = kindsT -> (((q196
  x y) /\ (q200 x y) /\ (q198 x y) /\ True) /\ (q197 x y) /\ True) /\ (q65 <= q61 /\ (q199 x y) /\ True) /\ True) /\ True) /\ ((True /\ (∀ (y : q21), (q201 y) -> y.1 = kindsT -> ((q196 x y)
  /\ (q200 x y) /\ (q198 x y) /\ True) /\ (q197 x y) /\ True) /\ True) /\ (q65 <= q61 /\ (q195 x) /\ True) /\ True) /\ (q65 <= q61 /\ (True /\ (∀ (y : q21), (q201 y) -> y.1 = kindsT -> (q199
  x y) /\ True) /\ True) /\ ((q195 x) /\ True) /\ True) /\ True
theorem e54 : t54 = Con.vc c_host_May GL (mkEnvO ty [(104, conSem c_host_kinds), (130, conSem c_host_Email), (145, conSem c_host_kinds_1), (147, conSem c_host_named), (148, conSem c_host_IP)] [] [] [0, 1, 2, 3, 4] [2000130,2000145,2000147,2000148]) {} Tryz.f54.ntmps Tryz.f54.results.toList (bodyOf Tryz.f54) := by kernel_rfl
theorem k54 : t54 := by
  unfold t54
  delta q10 q89 q149 q90 q61 q21 q201 q196 q200 q198 q197 q65 q199 q195 q425 q393 q394 q431 q432 q392 q443 q457 q462 q461 q464 q4 wbZ
  rintro ⟨⟨k, s⟩, _⟩ hx hp
  have hp : s.length ≤ 100000000 := hp
  have hp9 : s.length ≤ 1000000000 := by omega
  try dsimp +instances only [dft_int, dft_sl, dft_str]
  simp only [true_and, and_true, eq_self_iff_true, implies_true, reduceCtorEq, false_implies, true_implies, decide_eq_true_eq, decide_eq_false_iff_not, beq_self_eq_true, Bool.not_eq_true', ne_eq, Decidable.not_not, List.nil_append, List.length_singleton, List.length_cons, List.length_nil, Nat.zero_add, Nat.add_zero, Nat.mul_one, and_self, beq_iff_eq, Bool.not_true, Bool.not_false, Bool.not_eq_false', Bool.cond_false_right, Bool.and_eq_true, imp_self, Bool.not_eq_true, Bool.cond_true_left, Bool.or_eq_true]
  simp only [all_mp, all_bool]
  rcases (show k = 1 ∨ k = 2 ∨ k = 4 ∨ k = 7 ∨ (k ≠ 1 ∧ k ≠ 2 ∧ k ≠ 4 ∧ k ≠ 7) by omega) with rfl | rfl | rfl | rfl | ⟨a, b, c, d⟩
  . simp [kindsT, lookB, lookD, mayG, hp, hp9]
  . simp [kindsT, lookB, lookD, mayG, hp, hp9]
  . simp [kindsT, lookB, lookD, mayG, hp, hp9]
  . simp [kindsT, lookB, lookD, mayG, hp, hp9]
  . simp [kindsT, lookB, lookD, mayG, hp, hp9, a, b, c, d]
theorem h54 : c_host_May.ok Tryz.prog GL 54 := conO_ok (H := {}) (mkEnvO_ok (gl := GL) (l := [(104, conSem c_host_kinds), (130, conSem c_host_Email), (145, conSem c_host_kinds_1), (147, conSem c_host_named), (148, conSem c_host_IP)]) (q := []) (d := []) _ [2000130,2000145,2000147,2000148] tyOk (by kernel_rfl) ⟨h104.call, h130.call, h145.call, h147.call, h148.call, trivial⟩ trivial trivial) (by kernel_rfl) (by kernel_rfl) (Eq.mp e54 k54)
end Go.Proofs.YtiofbnlbfmbodaaGreatDoor
end
section
namespace Go.Proofs.YtiofbnlbfmbodaaGreatDoor
open Go Go.Vc Go.Pl Go.Proofs
end Go.Proofs.YtiofbnlbfmbodaaGreatDoor
end
section
namespace Go.Proofs.YtiofbnlbfmbodaaGreatDoor
open Go Go.Vc Go.Pl Go.Proofs
set_option linter.unusedVariables false
set_option linter.unusedSimpArgs false
set_option maxRecDepth 20000
end Go.Proofs.YtiofbnlbfmbodaaGreatDoor
end
