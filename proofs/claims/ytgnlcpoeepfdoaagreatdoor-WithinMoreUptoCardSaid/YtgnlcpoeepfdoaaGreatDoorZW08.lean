/- Texts of a verified walk, led together: HostgA, HostgW, HostrA, HostrW. -/
import Derived.Test.YtgnlcpoeepfdoaaGreatDoorZW07
import Derived.Test.YtgnlcpoeepfdoaaGreatDoorZV13
set_option linter.unusedVariables false
set_option linter.unusedSimpArgs false
section
namespace Go.Proofs.YtgnlcpoeepfdoaaGreatDoor
open Go Go.Vc Go.Pl Go.Proofs
abbrev GT : Kd := .pair (.int .i64) .str
def kindsT : List (Int × Nat × List Int) := [(1, 32 + 1, [101, 109, 97, 105, 108, 58]), (2, 72 + 1, [100, 110, 115, 58]), (4, 73 + 1, [110, 97, 109, 101, 58]), (7, 74 + 1, [105, 112, 58])]
def c_host_kinds : Con := { args := [], res := [.dat (.mp (.pair .fn .str))], pre := fun _ => True, post := fun _ y => y.1 = kindsT }
def c_host_kinds_1 : Con := { args := [.dat .str], res := [.dat .bool], pre := fun x => x.1.length ≤ 1000000000, post := fun x y => y.1 = (dnsD x.1 || wildD x.1) }
def c_host_named : Con := { args := [.dat .str], res := [.dat .bool], pre := fun x => x.1.length ≤ 100000000, post := fun x y => y.1 = namedD x.1 }
def c_host_May : Con := { args := [.dat GT], res := [.dat .bool], pre := fun x => x.1.2.length ≤ 100000000, post := fun x y => y.1 = mayG x.1.1 x.1.2 }
end Go.Proofs.YtgnlcpoeepfdoaaGreatDoor
end
section
namespace Go.Proofs.YtgnlcpoeepfdoaaGreatDoor
open Go Go.Vc Go.Pl Go.Proofs
set_option linter.unusedVariables false
set_option linter.unusedSimpArgs false
set_option maxRecDepth 20000
abbrev q18 := (List (Int × List Int) × Int × Unit)
abbrev q19 := (List (Int × Nat × List Int) × Unit)
abbrev q177 (p0 : q18) := (Kd.wf (Kd.sl q303) p0.1 /\ wiZ p0.2.1 /\ True)
abbrev q333 (p0 : (Int × List Int) × Unit) (p1 : q19) := (lookB p0.1.1 p1.1 = true -> (lookB p0.1.1 p1.1 == true) = true /\ True)
abbrev q336 (p0 : (Int × List Int) × Unit) (p1 : q19) := (lookD (Kd.dft (Kd.pair Kd.fn Kd.str)) p0.1.1 p1.1)
abbrev q332 (p0 : (Int × List Int) × Unit) (p1 : q19) := (lookB p0.1.1 p1.1 = true -> (lookB p0.1.1 p1.1 == true) = true /\ (lookB p0.1.1 p1.1 == true) = true /\ ((q336 p0 p1).1 = (33 :
  Nat) \/ (q336 p0 p1).1 = (73 : Nat) \/ (q336 p0 p1).1 = (74 : Nat) \/ (q336 p0 p1).1 = (75 : Nat) \/ False) /\ ((q336 p0 p1).1 = (33 : Nat) -> List.length p0.1.2 <= (1000000000 : Nat) /\ (∀
  (y : q4), (wbZ y.1 /\ True) -> y.1 = emailD p0.1.2 -> y.1 = mayG p0.1.1 p0.1.2) /\ True) /\ ((q336 p0 p1).1 = (73 : Nat) -> List.length p0.1.2 <= (1000000000 : Nat) /\ (∀ (y : q4), (wbZ y.1
  /\ True) -> y.1 = (dnsD p0.1.2 || wildD p0.1.2) -> y.1 = mayG p0.1.1 p0.1.2) /\ True) /\ ((q336 p0 p1).1 = (74 : Nat) -> List.length p0.1.2 <= (100000000 : Nat) /\ (∀ (y : q4), (wbZ y.1 /\
  True) -> y.1 = namedD p0.1.2 -> y.1 = mayG p0.1.1 p0.1.2) /\ True) /\ ((q336 p0 p1).1 = (75 : Nat) -> True /\ (∀ (y : q4), (wbZ y.1 /\ True) -> y.1 = ipD p0.1.2 -> y.1 = mayG p0.1.1 p0.1.2)
  /\ True) /\ True)
abbrev q327 (p0 : (Int × List Int) × Unit) (p1 : q19) := (((lookB p0.1.1 p1.1 = true -> True) /\ (q333 p0 p1) /\ (lookB p0.1.1 p1.1 = true -> True) /\ (q333 p0 p1) /\ (q332 p0 p1) /\ (lookB
  p0.1.1 p1.1 = !true -> false = mayG p0.1.1 p0.1.2)) /\ True)
abbrev q309 (p0 : (Int × List Int) × Unit) (p1 : q19) := ((q327 p0 p1) /\ (q327 p0 p1) /\ True)
abbrev q310 (p0 : (Int × List Int) × Unit) (p1 : q19) := ((q327 p0 p1) /\ True)
abbrev q285 (p0 : (Int × List Int) × Unit) (p1 : q19) := ((q309 p0 p1) /\ (q310 p0 p1) /\ True)
abbrev q178 (p0 : (Int × List Int) × Unit) := (True /\ (∀ (y : q19), (Kd.wf (Kd.mp (Kd.pair Kd.fn Kd.str)) y.1 /\ True) -> y.1 = kindsT -> (q285 p0 y) /\ True) /\ True)
abbrev q317 (p0 : (Int × List Int) × Unit) (p1 : q19) := ((lookB p0.1.1 p1.1 = true -> True) /\ (q333 p0 p1) /\ (lookB p0.1.1 p1.1 = true -> True) /\ (q333 p0 p1) /\ (q332 p0 p1) /\ (lookB
  p0.1.1 p1.1 = !true -> false = mayG p0.1.1 p0.1.2))
abbrev q286 (p0 : (Int × List Int) × Unit) (p1 : q19) := (((2 : Nat) <= (65536 : Nat) /\ (q317 p0 p1) /\ True) /\ True)
abbrev q287 (p0 : (Int × List Int) × Unit) (p1 : q19) := ((q317 p0 p1) /\ True)
abbrev q179 (p0 : (Int × List Int) × Unit) (p1 : q19) := ((q286 p0 p1) /\ (q267 <= (65536 : Nat) /\ (q287 p0 p1) /\ (q287 p0 p1) /\ True) /\ True)
abbrev q180 (p0 : (Int × List Int) × Unit) (p1 : q19) := (q267 <= (65536 : Nat) /\ (q285 p0 p1) /\ True)
abbrev q181 (p0 : (Int × List Int) × Unit) (p1 : q19) := (q267 <= (65536 : Nat) /\ (q309 p0 p1) /\ (q310 p0 p1) /\ True)
abbrev q182 (p0 : (Int × List Int) × Unit) (p1 : q19) := ((q285 p0 p1) /\ True)
abbrev q183 (p0 : (Int × List Int) × Unit) (p1 : q19) := ((q286 p0 p1) /\ (q267 <= (65536 : Nat) /\ (q287 p0 p1) /\ True) /\ True)
abbrev q184 (p0 : q19) := (Kd.wf (Kd.mp (Kd.pair Kd.fn Kd.str)) p0.1 /\ True)
def t44 : Prop :=
  ∀ (x : Unit), True -> True -> false = false /\ (decide (q69 = q66) || false) = false /\ (decide ((4 : Int) = q66) || (decide ((4 : Int) = q69) || false)) = false /\ (decide ((7 : Int) =
  q66) || (decide ((7 : Int) = q69) || (decide ((7 : Int) = (4 : Int)) || false))) = false /\ [] ++ [(q66, (33 : Nat), bs { data := #[(101 : UInt8), (109 : UInt8), (97 : UInt8), (105 :
  UInt8), (108 : UInt8), (58 : UInt8)] })] ++ [(q69, (73 : Nat), bs { data := #[(100 : UInt8), (110 : UInt8), (115 : UInt8), (58 : UInt8)] })] ++ [((4 : Int), (74 : Nat), bs { data := #[(110
  : UInt8), (97 : UInt8), (109 : UInt8), (101 : UInt8), (58 : UInt8)] })] ++ [((7 : Int), (75 : Nat), bs { data := #[(105 : UInt8), (112 : UInt8), (58 : UInt8)] })] = kindsT
theorem e44 : t44 = Con.vc c_host_kinds GL (mkEnv ty [] [] [] [0]) {} Tryz.f44.ntmps Tryz.f44.results.toList (bodyOf Tryz.f44) := by kernel_rfl
theorem k44 : t44 := by
  unfold t44
  delta q69 q66
  rintro _ hx hp
  try dsimp +instances only [dft_int, dft_sl, dft_str]
  simp only [true_and, and_true, eq_self_iff_true, implies_true, reduceCtorEq, false_implies, true_implies, decide_eq_true_eq, decide_eq_false_iff_not, beq_self_eq_true, Bool.not_eq_true', ne_eq, Decidable.not_not, List.nil_append, List.length_singleton, List.length_cons, List.length_nil, Nat.zero_add, Nat.add_zero, Nat.mul_one, and_self, beq_iff_eq, Bool.not_true, Bool.not_false, Bool.not_eq_false', Bool.cond_false_right, Bool.and_eq_true, imp_self, Bool.not_eq_true, Bool.cond_true_left, Bool.or_eq_true]
  exact ⟨by decide, by decide, by decide, by decide⟩
theorem h44 : c_host_kinds.ok Tryz.prog GL 44 := con_ok (H := {}) (mkEnv_ok (gl := GL) (l := []) (q := []) (d := []) _ tyOk (by kernel_rfl) trivial trivial trivial) (by kernel_rfl) (by kernel_rfl) (Eq.mp e44 k44)
def t72 : Prop :=
  ∀ (x : q6), (q64 x) -> List.length x.1 <= q92 -> List.length x.1 <= q92 /\ (∀ (y : q4), (q44 y) -> y.1 = dnsD x.1 -> (y.1 = false -> True) /\ (y.1 = false -> (y.1 == false) = true /\
  List.length x.1 <= q92 /\ (∀ (y : q4), (q44 y) -> y.1 = wildD x.1 -> y.1 = (dnsD x.1 || wildD x.1)) /\ True) /\ (y.1 = !false -> true = (dnsD x.1 || wildD x.1))) /\ True
theorem e72 : t72 = Con.vc c_host_kinds_1 GL (mkEnv ty [(25, conSem c_host_DNS), (17, conSem c_host_Wild)] [] [] [0, 2]) {} Tryz.f72.ntmps Tryz.f72.results.toList (bodyOf Tryz.f72) := by kernel_rfl
theorem k72 : t72 := by
  unfold t72
  delta q6 q64 q92 q4 q44 wsZ wbZ
  rintro ⟨s, _⟩ hx hp
  try dsimp +instances only [dft_int, dft_sl, dft_str]
  simp only [true_and, and_true, eq_self_iff_true, implies_true, reduceCtorEq, false_implies, true_implies, decide_eq_true_eq, decide_eq_false_iff_not, beq_self_eq_true, Bool.not_eq_true', ne_eq, Decidable.not_not, List.nil_append, List.length_singleton, List.length_cons, List.length_nil, Nat.zero_add, Nat.add_zero, Nat.mul_one, and_self, beq_iff_eq, Bool.not_true, Bool.not_false, Bool.not_eq_false', Bool.cond_false_right, Bool.and_eq_true, imp_self, Bool.not_eq_true, Bool.cond_true_left, Bool.or_eq_true]
  refine ⟨hp, ?_⟩
  rintro ⟨a, _⟩ _ ea
  simp only at ea ⊢
  subst ea
  refine ⟨fun h => ⟨h, hp, ?_⟩, fun h => by rw [h]; rfl⟩
  rintro ⟨b, _⟩ _ eb
  simp only at eb ⊢
  rw [eb, h]; rfl
theorem h72 : c_host_kinds_1.ok Tryz.prog GL 72 := con_ok (H := {}) (mkEnv_ok (gl := GL) (l := [(25, conSem c_host_DNS), (17, conSem c_host_Wild)]) (q := []) (d := []) _ tyOk (by kernel_rfl) ⟨h25.call, h17.call, trivial⟩ trivial trivial) (by kernel_rfl) (by kernel_rfl) (Eq.mp e72 k72)
def t73 : Prop :=
  ∀ (x : q6), (q64 x) -> List.length x.1 <= q87 -> lenB x.1 <= q87 /\ (∀ (y : q18), (q177 y) -> decQ x.1 y.1 y.2.1 = true -> decide (y.2.1 = q33) = namedD x.1) /\ True
theorem e73 : t73 = Con.vc c_host_named GL (mkEnv ty [(96, conSem c_name_Decode)] [] [] [0, 2, 4]) {} Tryz.f73.ntmps Tryz.f73.results.toList (bodyOf Tryz.f73) := by kernel_rfl
theorem k73 : t73 := by
  unfold t73
  delta q6 q64 q87 q18 q177 q33 wsZ q303 wiZ
  rintro ⟨s, _⟩ hx hp
  try dsimp +instances only [dft_int, dft_sl, dft_str]
  simp only [true_and, and_true, eq_self_iff_true, implies_true, reduceCtorEq, false_implies, true_implies, decide_eq_true_eq, decide_eq_false_iff_not, beq_self_eq_true, Bool.not_eq_true', ne_eq, Decidable.not_not, List.nil_append, List.length_singleton, List.length_cons, List.length_nil, Nat.zero_add, Nat.add_zero, Nat.mul_one, and_self, beq_iff_eq, Bool.not_true, Bool.not_false, Bool.not_eq_false', Bool.cond_false_right, Bool.and_eq_true, imp_self, Bool.not_eq_true, Bool.cond_true_left, Bool.or_eq_true]
  refine ⟨by rw [lenB]; exact hp, ?_⟩
  rintro ⟨l, e, _⟩ _ h
  exact (dec_named h).1
theorem h73 : c_host_named.ok Tryz.prog GL 73 := con_ok (H := {}) (mkEnv_ok (gl := GL) (l := [(96, conSem c_name_Decode)]) (q := []) (d := []) _ tyOk (by kernel_rfl) ⟨h96.call, trivial⟩ trivial trivial) (by kernel_rfl) (by kernel_rfl) (Eq.mp e73 k73)
def t18 : Prop :=
  ∀ (x : q93 × Unit), (Kd.wf q106 x.1 /\ True) -> List.length x.1.2 <= q87 -> List.length [SV.dat q107 x.1.1, SV.dat Kd.str x.1.2] <= q65 /\ (True /\ (∀ (y : q19), (q184 y) -> y.1 = kindsT ->
  (((q179 x y) /\ (q183 x y) /\ (q181 x y) /\ True) /\ (q180 x y) /\ True) /\ (q68 <= q65 /\ (q182 x y) /\ True) /\ True) /\ True) /\ ((True /\ (∀ (y : q19), (q184 y) -> y.1 = kindsT ->
  ((q179 x y) /\ (q183 x y) /\ (q181 x y) /\ True) /\ (q180 x y) /\ True) /\ True) /\ (q68 <= q65 /\ (q178 x) /\ True) /\ True) /\ (q68 <= q65 /\ (True /\ (∀ (y : q19), (q184 y) -> y.1 =
  kindsT -> (q182 x y) /\ True) /\ True) /\ ((q178 x) /\ True) /\ True) /\ True
theorem e18 : t18 = Con.vc c_host_May GL (mkEnvO ty [(44, conSem c_host_kinds), (32, conSem c_host_Email), (72, conSem c_host_kinds_1), (73, conSem c_host_named), (74, conSem c_host_IP)] [] [] [0, 1, 2, 3, 4] [2000032,2000072,2000073,2000074]) {} Tryz.f18.ntmps Tryz.f18.results.toList (bodyOf Tryz.f18) := by kernel_rfl
theorem k18 : t18 := by
  unfold t18
  delta q93 q106 q87 q107 q65 q19 q184 q179 q183 q181 q180 q68 q182 q178 q304 q286 q267 q287 q309 q310 q285 q317 q327 q333 q332 q336 q4 wbZ
  rintro ⟨⟨k, s⟩, _⟩ hx hp
  have hp : s.length ≤ 100000000 := hp
  have hp9 : s.length ≤ 1000000000 := by omega
  try dsimp +instances only [dft_int, dft_sl, dft_str]
  simp only [true_and, and_true, eq_self_iff_true, implies_true, reduceCtorEq, false_implies, true_implies, decide_eq_true_eq, decide_eq_false_iff_not, beq_self_eq_true, Bool.not_eq_true', ne_eq, Decidable.not_not, List.nil_append, List.length_singleton, List.length_cons, List.length_nil, Nat.zero_add, Nat.add_zero, Nat.mul_one, and_self, beq_iff_eq, Bool.not_true, Bool.not_false, Bool.not_eq_false', Bool.cond_false_right, Bool.and_eq_true, imp_self, Bool.not_eq_true, Bool.cond_true_left, Bool.or_eq_true]
  simp only [all_mp, all_bool]
  rcases (show k = 1 ∨ k = 2 ∨ k = 4 ∨ k = 7 ∨ (k ≠ 1 ∧ k ≠ 2 ∧ k ≠ 4 ∧ k ≠ 7) by omega) with rfl | rfl | rfl | rfl | ⟨a, b, c, d⟩
  . simp [kindsT, lookB, lookD, mayG, hp, hp9]
  . simp [kindsT, lookB, lookD, mayG, hp, hp9]
  . simp [kindsT, lookB, lookD, mayG, hp, hp9]
  . simp [kindsT, lookB, lookD, mayG, hp, hp9]
  . simp [kindsT, lookB, lookD, mayG, hp, hp9, a, b, c, d]
theorem h18 : c_host_May.ok Tryz.prog GL 18 := conO_ok (H := {}) (mkEnvO_ok (gl := GL) (l := [(44, conSem c_host_kinds), (32, conSem c_host_Email), (72, conSem c_host_kinds_1), (73, conSem c_host_named), (74, conSem c_host_IP)]) (q := []) (d := []) _ [2000032,2000072,2000073,2000074] tyOk (by kernel_rfl) ⟨h44.call, h32.call, h72.call, h73.call, h74.call, trivial⟩ trivial trivial) (by kernel_rfl) (by kernel_rfl) (Eq.mp e18 k18)
end Go.Proofs.YtgnlcpoeepfdoaaGreatDoor
end
section
namespace Go.Proofs.YtgnlcpoeepfdoaaGreatDoor
open Go Go.Vc Go.Pl Go.Proofs
end Go.Proofs.YtgnlcpoeepfdoaaGreatDoor
end
section
namespace Go.Proofs.YtgnlcpoeepfdoaaGreatDoor
open Go Go.Vc Go.Pl Go.Proofs
set_option linter.unusedVariables false
set_option linter.unusedSimpArgs false
set_option maxRecDepth 20000
end Go.Proofs.YtgnlcpoeepfdoaaGreatDoor
end
