/- Texts of a verified walk, led together: HostgA, HostgW, HostrA, HostrW. -/
import Derived.Test.YtiofbnlbfmbodaaGreatDoorZW07
import Derived.Test.YtiofbnlbfmbodaaGreatDoorZV14
set_option linter.unusedVariables false
set_option linter.unusedSimpArgs false
section
namespace Go.Proofs.YtiofbnlbfmbodaaGreatDoor
open Go Go.Vc Go.Pl Go.Proofs
abbrev GT : Kd := .pair (.int .i64) .str
def kindsT : List (Int × Nat × List Int) := [(1, 130 + 1, [101, 109, 97, 105, 108, 58]), (2, 145 + 1, [100, 110, 115, 58]), (4, 147 + 1, [110, 97, 109, 101, 58]), (7, 148 + 1, [105, 112, 58])]
def c_host_kinds : Con := { args := [], res := [.dat (.mp (.pair .fn .str))], pre := fun _ => True, post := fun _ y => y.1 = kindsT }
def c_host_kinds_1 : Con := { args := [.dat .str], res := [.dat .bool], pre := fun x => x.1.length ≤ 1000000000, post := fun x y => y.1 = (dnsD x.1 || wildD x.1) }
def c_host_named : Con := { args := [.dat .str], res := [.dat .bool], pre := fun x => x.1.length ≤ 100000000, post := fun x y => y.1 = namedD x.1 }
def c_host_May : Con := { args := [.dat GT], res := [.dat .bool], pre := fun x => x.1.2.length ≤ 100000000, post := fun x y => y.1 = mayG x.1.1 x.1.2 }
end Go.Proofs.YtiofbnlbfmbodaaGreatDoor
end
section
namespace Go.Proofs.YtiofbnlbfmbodaaGreatDoor
open Go Go.Vc Go.Pl Go.Proofs
set_option linter.unusedVariables false
set_option linter.unusedSimpArgs false
set_option maxRecDepth 20000
abbrev q27 := (List (Int × List Int) × Int × Unit)
abbrev q28 := (List (Int × Nat × List Int) × Unit)
abbrev q325 (p0 : q27) := (Kd.wf (Kd.sl q410) p0.1 /\ wiZ p0.2.1 /\ True)
abbrev q505 (p0 : q14) (p1 : q28) := (lookB p0.1.1 p1.1 = true -> (lookB p0.1.1 p1.1 == true) = true /\ True)
abbrev q507 (p0 : q14) (p1 : q28) := (lookD (Kd.dft (Kd.pair Kd.fn Kd.str)) p0.1.1 p1.1)
abbrev q504 (p0 : q14) (p1 : q28) := (lookB p0.1.1 p1.1 = true -> (lookB p0.1.1 p1.1 == true) = true /\ (lookB p0.1.1 p1.1 == true) = true /\ ((q507 p0 p1).1 = (131 : Nat) \/ (q507 p0 p1).1
  = (146 : Nat) \/ (q507 p0 p1).1 = (148 : Nat) \/ (q507 p0 p1).1 = (149 : Nat) \/ False) /\ ((q507 p0 p1).1 = (131 : Nat) -> List.length p0.1.2 <= (1000000000 : Nat) /\ (∀ (y : q4), (wbZ y.1
  /\ True) -> y.1 = emailD p0.1.2 -> y.1 = mayG p0.1.1 p0.1.2) /\ True) /\ ((q507 p0 p1).1 = (146 : Nat) -> List.length p0.1.2 <= (1000000000 : Nat) /\ (∀ (y : q4), (wbZ y.1 /\ True) -> y.1 =
  (dnsD p0.1.2 || wildD p0.1.2) -> y.1 = mayG p0.1.1 p0.1.2) /\ True) /\ ((q507 p0 p1).1 = (148 : Nat) -> List.length p0.1.2 <= (100000000 : Nat) /\ (∀ (y : q4), (wbZ y.1 /\ True) -> y.1 =
  namedD p0.1.2 -> y.1 = mayG p0.1.1 p0.1.2) /\ True) /\ ((q507 p0 p1).1 = (149 : Nat) -> True /\ (∀ (y : q4), (wbZ y.1 /\ True) -> y.1 = ipD p0.1.2 -> y.1 = mayG p0.1.1 p0.1.2) /\ True) /\
  True)
abbrev q502 (p0 : q14) (p1 : q28) := (((lookB p0.1.1 p1.1 = true -> True) /\ (q505 p0 p1) /\ (lookB p0.1.1 p1.1 = true -> True) /\ (q505 p0 p1) /\ (q504 p0 p1) /\ (lookB p0.1.1 p1.1 = !true
  -> false = mayG p0.1.1 p0.1.2)) /\ True)
abbrev q487 (p0 : q14) (p1 : q28) := ((q502 p0 p1) /\ (q502 p0 p1) /\ True)
abbrev q488 (p0 : q14) (p1 : q28) := ((q502 p0 p1) /\ True)
abbrev q458 (p0 : q14) (p1 : q28) := ((q487 p0 p1) /\ (q488 p0 p1) /\ True)
abbrev q326 (p0 : q14) := (True /\ (∀ (y : q28), (Kd.wf (Kd.mp (Kd.pair Kd.fn Kd.str)) y.1 /\ True) -> y.1 = kindsT -> (q458 p0 y) /\ True) /\ True)
abbrev q493 (p0 : q14) (p1 : q28) := ((lookB p0.1.1 p1.1 = true -> True) /\ (q505 p0 p1) /\ (lookB p0.1.1 p1.1 = true -> True) /\ (q505 p0 p1) /\ (q504 p0 p1) /\ (lookB p0.1.1 p1.1 = !true
  -> false = mayG p0.1.1 p0.1.2))
abbrev q459 (p0 : q14) (p1 : q28) := (((2 : Nat) <= (65536 : Nat) /\ (q493 p0 p1) /\ True) /\ True)
abbrev q460 (p0 : q14) (p1 : q28) := ((q493 p0 p1) /\ True)
abbrev q327 (p0 : q14) (p1 : q28) := ((q459 p0 p1) /\ (q399 <= (65536 : Nat) /\ (q460 p0 p1) /\ (q460 p0 p1) /\ True) /\ True)
abbrev q328 (p0 : q14) (p1 : q28) := (q399 <= (65536 : Nat) /\ (q458 p0 p1) /\ True)
abbrev q329 (p0 : q14) (p1 : q28) := (q399 <= (65536 : Nat) /\ (q487 p0 p1) /\ (q488 p0 p1) /\ True)
abbrev q330 (p0 : q14) (p1 : q28) := ((q458 p0 p1) /\ True)
abbrev q331 (p0 : q14) (p1 : q28) := ((q459 p0 p1) /\ (q399 <= (65536 : Nat) /\ (q460 p0 p1) /\ True) /\ True)
abbrev q332 (p0 : q28) := (Kd.wf (Kd.mp (Kd.pair Kd.fn Kd.str)) p0.1 /\ True)
def t104 : Prop :=
  ∀ (x : Unit), True -> True -> false = false /\ (decide (q69 = q66) || false) = false /\ (decide ((4 : Int) = q66) || (decide ((4 : Int) = q69) || false)) = false /\ (decide ((7 : Int) =
  q66) || (decide ((7 : Int) = q69) || (decide ((7 : Int) = (4 : Int)) || false))) = false /\ [] ++ [(q66, (131 : Nat), bs { data := #[(101 : UInt8), (109 : UInt8), (97 : UInt8), (105 :
  UInt8), (108 : UInt8), (58 : UInt8)] })] ++ [(q69, (146 : Nat), bs { data := #[(100 : UInt8), (110 : UInt8), (115 : UInt8), (58 : UInt8)] })] ++ [((4 : Int), (148 : Nat), bs { data :=
  #[(110 : UInt8), (97 : UInt8), (109 : UInt8), (101 : UInt8), (58 : UInt8)] })] ++ [((7 : Int), (149 : Nat), bs { data := #[(105 : UInt8), (112 : UInt8), (58 : UInt8)] })] = kindsT
theorem e104 : t104 = Con.vc c_host_kinds GL (mkEnv ty [] [] [] [0]) {} Tryz.f104.ntmps Tryz.f104.results.toList (bodyOf Tryz.f104) := by kernel_rfl
theorem k104 : t104 := by
  unfold t104
  delta q69 q66
  rintro _ hx hp
  try dsimp +instances only [dft_int, dft_sl, dft_str]
  simp only [true_and, and_true, eq_self_iff_true, implies_true, reduceCtorEq, false_implies, true_implies, decide_eq_true_eq, decide_eq_false_iff_not, beq_self_eq_true, Bool.not_eq_true', ne_eq, Decidable.not_not, List.nil_append, List.length_singleton, List.length_cons, List.length_nil, Nat.zero_add, Nat.add_zero, Nat.mul_one, and_self, beq_iff_eq, Bool.not_true, Bool.not_false, Bool.not_eq_false', Bool.cond_false_right, Bool.and_eq_true, imp_self, Bool.not_eq_true, Bool.cond_true_left, Bool.or_eq_true]
  exact ⟨by decide, by decide, by decide, by decide⟩
theorem h104 : c_host_kinds.ok Tryz.prog GL 104 := con_ok (H := {}) (mkEnv_ok (gl := GL) (l := []) (q := []) (d := []) _ tyOk (by kernel_rfl) trivial trivial trivial) (by kernel_rfl) (by kernel_rfl) (Eq.mp e104 k104)
def t145 : Prop :=
  ∀ (x : q5), (q62 x) -> List.length x.1 <= q79 -> List.length x.1 <= q79 /\ (∀ (y : q4), (q41 y) -> y.1 = dnsD x.1 -> (y.1 = false -> True) /\ (y.1 = false -> (y.1 == false) = true /\
  List.length x.1 <= q79 /\ (∀ (y : q4), (q41 y) -> y.1 = wildD x.1 -> y.1 = (dnsD x.1 || wildD x.1)) /\ True) /\ (y.1 = !false -> true = (dnsD x.1 || wildD x.1))) /\ True
theorem e145 : t145 = Con.vc c_host_kinds_1 GL (mkEnv ty [(131, conSem c_host_DNS), (146, conSem c_host_Wild)] [] [] [0, 2]) {} Tryz.f145.ntmps Tryz.f145.results.toList (bodyOf Tryz.f145) := by kernel_rfl
theorem k145 : t145 := by
  unfold t145
  delta q5 q62 q79 q4 q41 wsZ wbZ
  rintro ⟨s, _⟩ hx hp
  try dsimp +instances only [dft_int, dft_sl, dft_str]
  simp only [true_and, and_true, eq_self_iff_true, implies_true, reduceCtorEq, false_implies, true_implies, decide_eq_true_eq, decide_eq_false_iff_not, beq_self_eq_true, Bool.not_eq_true', ne_eq, Decidable.not_not, List.nil_append, List.length_singleton, List.length_cons, List.length_nil, Nat.zero_add, Nat.add_zero, Nat.mul_one, and_self, beq_iff_eq, Bool.not_true, Bool.not_false, Bool.not_eq_false', Bool.cond_false_right, Bool.and_eq_true, imp_self, Bool.not_eq_true, Bool.cond_true_left, Bool.or_eq_true]
  refine ⟨hp, ?_⟩
  rintro ⟨a, _⟩ _ ea
  simp only at ea ⊢
  subst ea
  refine ⟨fun h => ⟨h, hp, ?_⟩, fun h => by rw [h]; rfl⟩
  rintro ⟨b, _⟩ _ eb
  simp only at eb ⊢
  rw [eb, h]; rfl
theorem h145 : c_host_kinds_1.ok Tryz.prog GL 145 := con_ok (H := {}) (mkEnv_ok (gl := GL) (l := [(131, conSem c_host_DNS), (146, conSem c_host_Wild)]) (q := []) (d := []) _ tyOk (by kernel_rfl) ⟨h131.call, h146.call, trivial⟩ trivial trivial) (by kernel_rfl) (by kernel_rfl) (Eq.mp e145 k145)
def t147 : Prop :=
  ∀ (x : q5), (q62 x) -> List.length x.1 <= q149 -> lenB x.1 <= q149 /\ (∀ (y : q27), (q325 y) -> decQ x.1 y.1 y.2.1 = true -> decide (y.2.1 = q34) = namedD x.1) /\ True
theorem e147 : t147 = Con.vc c_host_named GL (mkEnv ty [(174, conSem c_name_Decode)] [] [] [0, 2, 4]) {} Tryz.f147.ntmps Tryz.f147.results.toList (bodyOf Tryz.f147) := by kernel_rfl
theorem k147 : t147 := by
  unfold t147
  delta q5 q62 q149 q27 q325 q34 wsZ q410 wiZ q483
  rintro ⟨s, _⟩ hx hp
  try dsimp +instances only [dft_int, dft_sl, dft_str]
  simp only [true_and, and_true, eq_self_iff_true, implies_true, reduceCtorEq, false_implies, true_implies, decide_eq_true_eq, decide_eq_false_iff_not, beq_self_eq_true, Bool.not_eq_true', ne_eq, Decidable.not_not, List.nil_append, List.length_singleton, List.length_cons, List.length_nil, Nat.zero_add, Nat.add_zero, Nat.mul_one, and_self, beq_iff_eq, Bool.not_true, Bool.not_false, Bool.not_eq_false', Bool.cond_false_right, Bool.and_eq_true, imp_self, Bool.not_eq_true, Bool.cond_true_left, Bool.or_eq_true]
  refine ⟨by rw [lenB]; exact hp, ?_⟩
  rintro ⟨l, e, _⟩ _ h
  exact (dec_named h).1
theorem h147 : c_host_named.ok Tryz.prog GL 147 := con_ok (H := {}) (mkEnv_ok (gl := GL) (l := [(174, conSem c_name_Decode)]) (q := []) (d := []) _ tyOk (by kernel_rfl) ⟨h174.call, trivial⟩ trivial trivial) (by kernel_rfl) (by kernel_rfl) (Eq.mp e147 k147)
def t54 : Prop :=
  ∀ (x : q14), (q132 x) -> List.length x.1.2 <= q149 -> List.length [SV.dat q134 x.1.1, SV.dat Kd.str x.1.2] <= q63 /\ (True /\ (∀ (y : q28), (q332 y) -> y.1 = kindsT -> (((q327 x y) /\ (q331
  x y) /\ (q329 x y) /\ True) /\ (q328 x y) /\ True) /\ (q67 <= q63 /\ (q330 x y) /\ True) /\ True) /\ True) /\ ((True /\ (∀ (y : q28), (q332 y) -> y.1 = kindsT -> ((q327 x y) /\ (q331 x y)
  /\ (q329 x y) /\ True) /\ (q328 x y) /\ True) /\ True) /\ (q67 <= q63 /\ (q326 x) /\ True) /\ True) /\ (q67 <= q63 /\ (True /\ (∀ (y : q28), (q332 y) -> y.1 = kindsT -> (q330 x y) /\ True)
  /\ True) /\ ((q326 x) /\ True) /\ True) /\ True
theorem e54 : t54 = Con.vc c_host_May GL (mkEnvO ty [(104, conSem c_host_kinds), (130, conSem c_host_Email), (145, conSem c_host_kinds_1), (147, conSem c_host_named), (148, conSem c_host_IP)] [] [] [0, 1, 2, 3, 4] [2000130,2000145,2000147,2000148]) {} Tryz.f54.ntmps Tryz.f54.results.toList (bodyOf Tryz.f54) := by kernel_rfl
theorem k54 : t54 := by
  unfold t54
  delta q14 q132 q149 q134 q63 q28 q332 q327 q331 q329 q328 q67 q330 q326 q410 q459 q399 q460 q487 q488 q458 q483 q493 q502 q505 q504 q507 q4 wbZ
  rintro ⟨⟨k, s⟩, _⟩ hx hp
  have hp : s.length ≤ 100000000 := hp
  have hp9 : s.length ≤ 1000000000 := by omega
  try dsimp +instances only [dft_int, dft_sl, dft_str]
  simp only [true_and, and_true, eq_self_iff_true, implies_true, reduceCtorEq, false_implies, true_implies, decide_eq_true_eq, decide_eq_false_iff_not, beq_self_eq_true, Bool.not_eq_true', ne_eq, Decidable.not_not, List.nil_append, List.length_singleton, List.length_cons, List.length_nil, Nat.zero_add, Nat.add_zero, Nat.mul_one, and_self, beq_iff_eq, Bool.not_true, Bool.not_false, Bool.not_eq_false', Bool.cond_false_right, Bool.and_eq_true, imp_self, Bool.not_eq_true, Bool.cond_true_left, Bool.or_eq_true]
  simp only [all_mp, all_bool]
  rcases (show k = 1 ∨ k = 2 ∨ k = 4 ∨ k = 7 ∨ (k ≠ 1 ∧ k ≠ 2 ∧ k ≠ 4 ∧ k ≠ 7) by omega) with rfl | rfl | rfl | rfl | ⟨a, b, c, d⟩
  . simp [kindsT, lookB, lookD, mayG, hp, hp9]
  . simp [kindsT, lookB, lookD, mayG, hp, hp9]
  . simp [kindsT, lookB, lookD, mayG, hp, hp9]
  . simp [kindsT, lookB, lookD, mayG, hp, hp9]
  . simp [kindsT, lookB, lookD, mayG, hp, hp9, a, b, c, d]
theorem h54 : c_host_May.ok Tryz.prog GL 54 := conO_ok (H := {}) (mkEnvO_ok (gl := GL) (l := [(104, conSem c_host_kinds), (130, conSem c_host_Email), (145, conSem c_host_kinds_1), (147, conSem c_host_named), (148, conSem c_host_IP)]) (q := []) (d := []) _ [2000130,2000145,2000147,2000148] tyOk (by kernel_rfl) ⟨h104.call, h130.call, h145.call, h147.call, h148.call, trivial⟩ trivial trivial) (by kernel_rfl) (by kernel_rfl) (Eq.mp e54 k54)
end Go.Proofs.YtiofbnlbfmbodaaGreatDoor
end
section
namespace Go.Proofs.YtiofbnlbfmbodaaGreatDoor
open Go Go.Vc Go.Pl Go.Proofs
def c_r13_May : Con := { args := [.dat GT], res := [.dat .bool], pre := fun x => x.1.2.length ≤ 100000000, post := fun x y => y.1 = mayG x.1.1 x.1.2 }
end Go.Proofs.YtiofbnlbfmbodaaGreatDoor
end
section
namespace Go.Proofs.YtiofbnlbfmbodaaGreatDoor
open Go Go.Vc Go.Pl Go.Proofs
set_option linter.unusedVariables false
set_option linter.unusedSimpArgs false
set_option maxRecDepth 20000
def t56 : Prop :=
  ∀ (x : q14), (q132 x) -> List.length x.1.2 <= q149 -> List.length [SV.dat q134 x.1.1, SV.dat Kd.str x.1.2] <= q63 /\ (decide (x.1.1 = q66) = true -> List.length x.1.2 <= q79 /\ (∀ (y : q4),
  (q41 y) -> y.1 = emailD x.1.2 -> y.1 = mayG x.1.1 x.1.2) /\ True) /\ (decide (x.1.1 = q66) = false -> (decide (x.1.1 = q69) = true -> List.length x.1.2 <= q79 /\ (∀ (y : q4), (q41 y) -> y.1
  = dnsD x.1.2 -> (y.1 = false -> True) /\ (y.1 = false -> (y.1 == false) = true /\ True) /\ (y.1 = false -> (y.1 == false) = true /\ List.length x.1.2 <= q79 /\ (∀ (y : q4), (q41 y) -> y.1 =
  wildD x.1.2 -> y.1 = mayG x.1.1 x.1.2) /\ True) /\ (y.1 = !false -> true = mayG x.1.1 x.1.2)) /\ True) /\ (decide (x.1.1 = q69) = false -> (decide (x.1.1 = (4 : Int)) = true -> lenB x.1.2
  <= q149 /\ (∀ (y : q27), (q325 y) -> decQ x.1.2 y.1 y.2.1 = true -> decide (y.2.1 = q34) = mayG x.1.1 x.1.2) /\ True) /\ (decide (x.1.1 = (4 : Int)) = false -> (decide (x.1.1 = (7 : Int)) =
  true -> True /\ (∀ (y : q4), (q41 y) -> y.1 = ipD x.1.2 -> y.1 = mayG x.1.1 x.1.2) /\ True) /\ (decide (x.1.1 = (7 : Int)) = false -> false = mayG x.1.1 x.1.2))))
theorem e56 : t56 = Con.vc c_r13_May GL (mkEnv ty [(97, conSem c_r13_Email), (96, conSem c_r13_DNS), (105, conSem c_r13_Wild), (98, conSem c_r12_Decode), (106, conSem c_r13_IP)] [] [] [0, 1, 2, 4, 6, 7, 12, 22, 33]) {} Tryz.f56.ntmps Tryz.f56.results.toList (bodyOf Tryz.f56) := by kernel_rfl
theorem k56 : t56 := by
  unfold t56
  delta q14 q132 q149 q134 q63 q66 q79 q4 q41 q69 q27 q325 q34 q410 wbZ wiZ q483
  rintro ⟨⟨k, s⟩, _⟩ hx hp
  have hp : s.length ≤ 100000000 := hp
  have hp9 : s.length ≤ 1000000000 := by omega
  try dsimp +instances only [dft_int, dft_sl, dft_str]
  simp only [true_and, and_true, eq_self_iff_true, implies_true, reduceCtorEq, false_implies, true_implies, decide_eq_true_eq, decide_eq_false_iff_not, beq_self_eq_true, Bool.not_eq_true', ne_eq, Decidable.not_not, List.nil_append, List.length_singleton, List.length_cons, List.length_nil, Nat.zero_add, Nat.add_zero, Nat.mul_one, and_self, beq_iff_eq, Bool.not_true, Bool.not_false, Bool.not_eq_false', Bool.cond_false_right, Bool.and_eq_true, imp_self, Bool.not_eq_true, Bool.cond_true_left, Bool.or_eq_true]
  simp only [all_bool]
  refine ⟨by decide, fun h => ?_, fun h1 => ⟨fun h => ?_, fun h2 => ⟨fun h => ?_, fun h4 => ⟨fun h => ?_, fun h7 => ?_⟩⟩⟩⟩
  . subst h; exact ⟨hp9, by rw [mayG]; rfl⟩
  . subst h
    refine ⟨hp9, fun h => ⟨h, hp9, ?_⟩, fun h => ?_⟩
    . show _ = (dnsD s || wildD s)
      rw [h]; rfl
    . show _ = (dnsD s || wildD s)
      rw [h]; rfl
  . subst h
    refine ⟨by rw [lenB]; exact hp, ?_⟩
    rintro ⟨l, e, _⟩ _ h
    exact (dec_named h).1
  . subst h; rfl
  . simp [mayG, h1, h2, h4, h7]
theorem h56 : c_r13_May.ok Tryz.prog GL 56 := con_ok (H := {}) (mkEnv_ok (gl := GL) (l := [(97, conSem c_r13_Email), (96, conSem c_r13_DNS), (105, conSem c_r13_Wild), (98, conSem c_r12_Decode), (106, conSem c_r13_IP)]) (q := []) (d := []) _ tyOk (by kernel_rfl) ⟨h97.call, h96.call, h105.call, h98.call, h106.call, trivial⟩ trivial trivial) (by kernel_rfl) (by kernel_rfl) (Eq.mp e56 k56)
end Go.Proofs.YtiofbnlbfmbodaaGreatDoor
end
