/- Texts of a verified walk, led together: Law15wA, Law15wW, Law15tA, Law15tW, Glok12A, Glok12W. -/
import Derived.Test.YtiofbnlbfmbodaaGreatDoorZW14
import Derived.Test.YtiofbnlbfmbodaaGreatDoorZV21
import Derived.Test.YtiofbnlbfmbodaaGreatDoorRows
set_option linter.unusedVariables false
set_option linter.unusedSimpArgs false
section
namespace Go.Proofs.YtiofbnlbfmbodaaGreatDoor
open Go Go.Vc Go.Pl Go.Proofs
def c_law15_is : Con := { args := [.dat BY, .dat I64, .dat BY, .dat I64], res := [.dat .bool], pre := fun _ => True, post := fun x y => y.1 = (decide (x.1 = x.2.2.1) && decide (x.2.1 = x.2.2.2.1)) }
def c_law15_names : Con := { args := [], res := [.dat .bool], pre := fun _ => True, post := fun _ y => y.1 = true }
end Go.Proofs.YtiofbnlbfmbodaaGreatDoor
end
section
namespace Go.Proofs.YtiofbnlbfmbodaaGreatDoor
open Go Go.Vc Go.Pl Go.Proofs
set_option linter.unusedVariables false
set_option linter.unusedSimpArgs false
def t9 : Prop :=
  ∀ (x : List Int × Int × List Int × Int × Unit), (wyZ x.1 /\ wiZ x.2.1 /\ wyZ x.2.2.1 /\ wiZ x.2.2.2.1 /\ True) -> True -> (decide (x.1 = x.2.2.1) = true -> True) /\ (decide (x.1 = x.2.2.1)
  = true -> True) /\ (decide (x.1 = x.2.2.1) = true -> (decide (x.1 = x.2.2.1) == true) = true /\ (decide (x.1 = x.2.2.1) == true) = true /\ True) /\ (decide (x.1 = x.2.2.1) = true -> (decide
  (x.1 = x.2.2.1) == true) = true) /\ (bif decide (x.1 = x.2.2.1) then decide (x.2.1 = x.2.2.2.1) else false) = (decide (x.1 = x.2.2.1) && decide (x.2.1 = x.2.2.2.1))
theorem e9 : t9 = Con.vc c_law15_is GL (mkEnv ty [] [] [] [0, 1, 2, 3, 8]) {} Tryz.f9.ntmps Tryz.f9.results.toList (bodyOf Tryz.f9) := by kernel_rfl
theorem k9 : t9 := by
  unfold t9
  delta wyZ wiZ
  rintro ⟨x, e, w, b, _⟩ hx hp
  try dsimp +instances only [dft_int, dft_sl, dft_str]
  try simp only [true_and, and_true, eq_self_iff_true, implies_true, reduceCtorEq, false_implies, true_implies, decide_eq_true_eq, decide_eq_false_iff_not, beq_self_eq_true, Bool.not_eq_true', ne_eq, Decidable.not_not, List.nil_append, List.length_singleton, List.length_cons, List.length_nil, Nat.zero_add, Nat.add_zero, Nat.mul_one, and_self, beq_iff_eq, Bool.not_true, Bool.not_false, Bool.not_eq_false', Bool.cond_false_right, Bool.and_eq_true, imp_self, Bool.not_eq_true, Bool.cond_true_left, Bool.or_eq_true]
theorem h9 : c_law15_is.ok Tryz.prog GL 9 := con_ok (H := {}) (mkEnv_ok (gl := GL) (l := []) (q := []) (d := []) _ tyOk (by kernel_rfl) trivial trivial trivial) (by kernel_rfl) (by kernel_rfl) (Eq.mp e9 k9)
def t16 : Prop :=
  ∀ (x : Unit), True -> True -> (9 : Nat) <= q69 /\ (9 : Nat) = (9 : Nat) /\ (9 : Nat) = (9 : Nat) /\ (decide ((14 : Int) = (14 : Int)) && (decide ((15 : Int) = (15 : Int)) && (decide ((17 :
  Int) = (17 : Int)) && (decide (q118 = q118) && (decide ((20 : Int) = (20 : Int)) && (decide ((21 : Int) = (21 : Int)) && (decide ((30 : Int) = (30 : Int)) && (decide ((35 : Int) = (35 :
  Int)) && (decide ((37 : Int) = (37 : Int)) && true))))))))) = true
theorem e16 : t16 = Con.vc c_law15_names GL (mkEnv ty [] [] [] [0, 1]) {} Tryz.f16.ntmps Tryz.f16.results.toList (bodyOf Tryz.f16) := by kernel_rfl
theorem k16 : t16 := by
  unfold t16
  delta q69 q118
  intro _ _ _
  first | rfl | decide
theorem h16 : c_law15_names.ok Tryz.prog GL 16 := con_ok (H := {}) (mkEnv_ok (gl := GL) (l := []) (q := []) (d := []) _ tyOk (by kernel_rfl) trivial trivial trivial) (by kernel_rfl) (by kernel_rfl) (Eq.mp e16 k16)
noncomputable def i10 : CallSem := vcFn (mkEnv ty [] [] [] [0, 2]) {} Tryz.f10.ntmps Tryz.f10.results.toList (bodyOf Tryz.f10)
theorem i10_ok : CallOk Tryz.prog GL 10 i10 := inl_ok {} (mkEnv_ok (gl := GL) (l := []) (q := []) (d := []) _ tyOk (by kernel_rfl) trivial trivial trivial) (by kernel_rfl) (by kernel_rfl)
noncomputable def i14 : CallSem := vcFn (mkEnvO ty [] [] [] [0, 1, 4] [1000000]) {} Tryz.f14.ntmps Tryz.f14.results.toList (bodyOf Tryz.f14)
theorem i14_ok : CallOk Tryz.prog GL 14 i14 := inlO_ok {} (mkEnvO_ok (gl := GL) (l := []) (q := []) (d := []) _ [1000000] tyOk (by kernel_rfl) trivial trivial trivial) (by kernel_rfl) (by kernel_rfl)
end Go.Proofs.YtiofbnlbfmbodaaGreatDoor
end
section
namespace Go.Proofs.YtiofbnlbfmbodaaGreatDoor
open Go Go.Vc Go.Pl Go.Proofs
def c_law15_ExtTrees : Con := { args := [.dat (.pair (.sl GK) (.sl GK)), .dat BY], res := [.dat .bool], pre := fun x => ABulk [.dat (.pair (.sl GK) (.sl GK)), .dat BY] x ≤ 1048576, post := fun _ y => y.1 = true }
end Go.Proofs.YtiofbnlbfmbodaaGreatDoor
end
section
namespace Go.Proofs.YtiofbnlbfmbodaaGreatDoor
open Go Go.Vc Go.Pl Go.Proofs
set_option maxHeartbeats 8000000
set_option maxRecDepth 20000
set_option linter.unusedVariables false
set_option linter.unusedSimpArgs false
abbrev q33 := (List (Int × List Int) × List (Int × List Int) × Int × Unit)
abbrev q34 := ((List (Int × List Int) × List (Int × List Int)) × Int × Unit)
abbrev q479 (p0 : (List (Int × List Int) × List (Int × List Int)) × List Int × Unit) := (List.take (Int.toNat (wrZ ((lnZ p0.2.1) + (1 : Int))) - q493) (List.drop q493 ([] ++ p0.2.1 ++ [(90
  : Int)])) = p0.2.1 ++ bs { data := #[(90 : UInt8)] })
abbrev q376 (p0 : (List (Int × List Int) × List (Int × List Int)) × List Int × Unit) (p1 : q0) := (((lenG p0.1.1 <= (2000000 : Nat) /\ lenG p0.1.2 <= (2000000 : Nat)) /\ (∀ (y_1 : q0), (wyZ
  y_1.1 /\ wiZ y_1.2.1 /\ True) -> (y_1.1, y_1.2.1) = TreesD (p0.1.1, p0.1.2) -> True /\ (∀ (y_2 : q4), (wbZ y_2.1 /\ True) -> y_2.1 = (decide (p1.1 = y_1.1) && decide (p1.2.1 = y_1.2.1)) ->
  ((!y_2.1) = true -> false = true) /\ ((!y_2.1) = false -> q402 < q387 /\ (q402 + List.length p0.2.1) * q387 <= q419 /\ q402 + List.length p0.2.1 <= q418 /\ q402 < q387 /\ (List.length ([]
  ++ p0.2.1) + q387) * q387 <= q419 /\ List.length ([] ++ p0.2.1) + q387 <= q418 /\ (q379 <= (lnZ p0.2.1) /\ (lnZ p0.2.1) <= (lnZ ([] ++ p0.2.1 ++ [(90 : Int)]))) /\ lenB (List.take
  (Int.toNat (lnZ p0.2.1) - q402) (List.drop q402 ([] ++ p0.2.1 ++ [(90 : Int)]))) <= (2000000 : Nat) /\ (∀ (y : q33), (Kd.wf q440 y.1 /\ Kd.wf q440 y.2.1 /\ wiZ y.2.2.1 /\ True) -> ((y.1,
  y.2.1), y.2.2.1) = ToTreesD (List.take (Int.toNat (lnZ p0.2.1) - q402) (List.drop q402 ([] ++ p0.2.1 ++ [(90 : Int)]))) -> (2 : Nat) <= q448 /\ lenB p0.2.1 <= (2000000 : Nat) /\ (∀ (y_3 :
  q34), (Kd.wf q476 y_3.1 /\ wiZ y_3.2.1 /\ True) -> (y_3.1, y_3.2.1) = ToTreesD p0.2.1 -> (2 : Nat) <= q448 /\ (decide (y.2.2.1 = y_3.2.1) = true -> True) /\ (decide (y.2.2.1 = y_3.2.1) =
  true -> True) /\ (decide (y.2.2.1 = y_3.2.1) = true -> (decide (y.2.2.1 = y_3.2.1) == true) = true /\ (decide (y.2.2.1 = y_3.2.1) == true) = true /\ True /\ (∀ (y_4 : q4), (wbZ y_4.1 /\
  True) -> y_4.1 = decide ((y.1, y.2.1) = (y_3.1.1, y_3.1.2)) -> (y_4.1 = true -> True) /\ (y_4.1 = true -> True) /\ (y_4.1 = true -> (y_4.1 == true) = true /\ (y_4.1 == true) = true /\ (q379
  <= wrZ ((lnZ p0.2.1) + q417) /\ wrZ ((lnZ p0.2.1) + q417) <= (lnZ ([] ++ p0.2.1 ++ [(90 : Int)]) - q402)) /\ List.length p0.2.1 + q387 <= q418 /\ (decide (q479 p0) = true -> True /\ (∀ (y :
  q5), (wyZ y.1 /\ True) -> y.1 = SubjectD [q379, q379, q379, q379, q379, q379, q379, q379, q379, q379, q379, q379, q379, q379, q379, q379, q379, q379, q379, q379] -> (decide ((lnZ y.1) = (22
  : Int)) = true -> True /\ (∀ (y : q4), (wbZ y.1 /\ True) -> y.1 = true -> y.1 = true) /\ True) /\ (decide ((lnZ y.1) = (22 : Int)) = !true -> false = true)) /\ True) /\ (decide (q479 p0) =
  !true -> false = true)) /\ (y_4.1 = !true -> false = true)) /\ True) /\ (decide (y.2.2.1 = y_3.2.1) = !true -> false = true)) /\ True) /\ True)) /\ True) /\ True) /\ True)
abbrev q485 (p0 : q374 × List Int × Unit) := (q71 < q74 /\ (q71 + List.length p0.1.2) * q245 <= q159 /\ q71 + List.length p0.1.2 <= q158 /\ (((lenG ([] ++ p0.1.1) <= q349 /\ lenG ([] ++
  p0.1.2) <= q349) /\ (∀ (y : q0), (q222 y) -> (y.1, y.2.1) = TreesD ([] ++ p0.1.1, [] ++ p0.1.2) -> (q376 p0 y) /\ (q376 p0 y) /\ True) /\ True) /\ True) /\ True)
abbrev q424 (p0 : q374 × List Int × Unit) := ((q71 < q74 /\ (q71 + List.length p0.1.1) * q245 <= q159 /\ q71 + List.length p0.1.1 <= q158 /\ (q485 p0) /\ True) /\ True)
def t3 : Prop :=
  ∀ (x : q374 × List Int × Unit), (Kd.wf q373 x.1 /\ wyZ x.2.1 /\ True) -> ABulk [AK.dat q373, AK.dat q404] x <= (1048576 : Nat) -> List.length [SV.dat q244 x.1.1, SV.dat q244 x.1.2] <= q69
  /\ True /\ True /\ ((q71 < q74 /\ (q71 + List.length x.1.1) * q245 <= q159 /\ q71 + List.length x.1.1 <= q158 /\ ((q485 x) /\ True) /\ True) /\ (q424 x) /\ True) /\ ((q424 x) /\ True) /\
  True
theorem e3 : t3 = Con.vc c_law15_ExtTrees GL (mkEnvO ty [(7, conSem c_ext_Trees), (8, conSem c_r15_Trees), (9, conSem c_law15_is), (10, i10), (11, conSem c_ext_ToTrees), (12, conSem c_r15_ToTrees), (13, conSem c_r15_SameTrees), (14, i14), (15, conSem c_ext_Subject), (16, conSem c_law15_names)] [] [] [0, 1, 2, 4, 5, 6, 7, 8, 9, 10, 11, 35] [1000000,3000002]) {} Tryz.f3.ntmps Tryz.f3.results.toList (bodyOf Tryz.f3) := by kernel_rfl
theorem k3 : t3 := by
  unfold t3
  delta q374 q373 wyZ q404 q244 q69 q71 q74 q245 q159 q158 q485 q424 q440 q488 q415 q349 q0 q222 q376 q500 q494 wiZ q4 wbZ q402 q387 q419 q418 q379 lnZ q33 q448 q34 q476 wrZ q417 q479 q5 q506 q493
  rintro ⟨⟨p, x⟩, b, _⟩ hx hp
  obtain ⟨hl1, hl2, hbl⟩ := bulk_trees hp
  clear hp
  try dsimp +instances only [dft_int, dft_sl, dft_str]
  simp only [true_and, and_true, eq_self_iff_true, implies_true, reduceCtorEq, false_implies, true_implies, decide_eq_true_eq, decide_eq_false_iff_not, beq_self_eq_true, Bool.not_eq_true', ne_eq, Decidable.not_not, List.nil_append, List.length_singleton, List.length_cons, List.length_nil, Nat.zero_add, Nat.add_zero, Nat.mul_one, and_self, beq_iff_eq, Bool.not_true, Bool.not_false, Bool.not_eq_false', Bool.cond_false_right, Bool.and_eq_true, imp_self, Bool.not_eq_true, Bool.cond_true_left, Bool.or_eq_true]
  simp only at hl1 hl2
  have hl3 : (b ++ [(90 : Int)]).length = b.length + 1 := by simp
  have e0 : List.take ((b.length : Int).toNat - 0) (List.drop 0 (b ++ [90])) = b := by
    rw [List.drop_zero, show (b.length : Int).toNat - 0 = b.length by omega, List.take_left]
  have e1 : List.take ((IntKind.i64.wrap ((b.length : Int) + 1)).toNat - 0) (List.drop 0 (b ++ [90])) = b ++ bs { data := #[90] } := by
    rw [wrapM _ (by omega) (by omega), List.drop_zero, show ((b.length : Int) + 1).toNat - 0 = (b ++ [(90 : Int)]).length by rw [hl3]; omega, List.take_length]
    rfl
  have e2 : 0 ≤ IntKind.i64.wrap ((b.length : Int) + 1) := by rw [wrapM _ (by omega) (by omega)]; omega
  have e3 : IntKind.i64.wrap ((b.length : Int) + 1) ≤ (((b ++ [(90 : Int)]).length - 0 : Nat) : Int) := by rw [wrapM _ (by omega) (by omega), hl3]; omega
  have e3' : IntKind.i64.wrap ((b.length : Int) + 1) ≤ (((b ++ [(90 : Int)]).length : Nat) : Int) - ((0 : Nat) : Int) := by rw [wrapM _ (by omega) (by omega), hl3]; omega
  have hB : lenB b ≤ 2000000 := by show b.length ≤ _; omega
  have hP : lenG p ≤ 2000000 := by omega
  have hX : lenG x ≤ 2000000 := by omega
  have hsub : ∀ (y : List Int × Unit), (Kd.int IntKind.u8).sl.wf y.fst → y.fst = SubjectD [0, 0, 0, 0, 0, 0, 0, 0, 0, 0, 0, 0, 0, 0, 0, 0, 0, 0, 0, 0] → ¬(y.fst.length : Int) = 22 → False := fun y _ e h => h (by rw [e]; decide)
  simp only [e0, e1]
  refine ⟨by decide, by decide, by omega, by omega, by decide, by omega, by omega, ⟨hP, hX⟩, ?_⟩
  rintro ⟨c, f, _⟩ _ q1
  simp only at q1 ⊢
  refine ⟨⟨hP, hX⟩, ?_⟩
  rintro ⟨c', f', _⟩ _ q2
  simp only at q2 ⊢
  obtain ⟨rfl, rfl⟩ := Prod.mk.inj (q2.trans q1.symm)
  rintro ⟨o1, _⟩ _ q5
  simp only at q5 ⊢
  have q5 : o1 = true := by rw [q5]; simp
  subst q5
  refine ⟨fun h => (by cases h), fun _ => ⟨by decide, by omega, by omega, by decide, by omega, by omega, ⟨by omega, by rw [hl3]; omega⟩, hB, ?_⟩⟩
  rintro ⟨t1, t2, g, _⟩ _ r1
  simp only at r1 ⊢
  refine ⟨by decide, hB, ?_⟩
  rintro ⟨⟨u1, u2⟩, g', _⟩ _ r2
  simp only at r2 ⊢
  have r3 := r2.trans r1.symm
  simp only [Prod.mk.injEq] at r3
  obtain ⟨⟨rfl, rfl⟩, rfl⟩ := r3
  refine ⟨by decide, fun _ => ⟨by first | rfl | trivial, by first | rfl | trivial, ?_⟩, fun h => (by first | exact absurd rfl h | exact absurd trivial h)⟩
  rintro ⟨o2, _⟩ _ q6
  simp only at q6 ⊢
  have q6 : o2 = true := by rw [q6]; simp
  subst q6
  refine ⟨fun _ => ⟨by first | rfl | trivial, by first | rfl | trivial, ⟨e2, by first | exact e3 | exact e3'⟩, by omega, fun _ => hsub, fun h => (by first | exact h trivial | exact absurd rfl h)⟩, fun h => (by cases h)⟩
theorem h3 : c_law15_ExtTrees.ok Tryz.prog GL 3 := conO_ok (H := {}) (mkEnvO_ok (gl := GL) (l := [(7, conSem c_ext_Trees), (8, conSem c_r15_Trees), (9, conSem c_law15_is), (10, i10), (11, conSem c_ext_ToTrees), (12, conSem c_r15_ToTrees), (13, conSem c_r15_SameTrees), (14, i14), (15, conSem c_ext_Subject), (16, conSem c_law15_names)]) (q := []) (d := []) _ [1000000,3000002] tyOk (by kernel_rfl) ⟨h7.call, h8.call, h9.call, i10_ok, h11.call, h12.call, h13.call, i14_ok, h15.call, h16.call, trivial⟩ trivial trivial) (by kernel_rfl) (by kernel_rfl) (Eq.mp e3 k3)
end Go.Proofs.YtiofbnlbfmbodaaGreatDoor
end
section
namespace Go.Proofs.YtiofbnlbfmbodaaGreatDoor
open Go Go.Vc Go.Pl Go.Proofs
set_option maxRecDepth 100000 in
theorem glOk {w : World} (hL : laidMetH Tryz.prog [("unicode/utf8.acceptRanges", Rows.laid_unicode_utf8_acceptRanges), ("unicode/utf8.first", Rows.laid_unicode_utf8_first)] w) (hS : w.ShapedOpen Tryz.prog) : GlOk GL w (fun _ => False) := by
  have hL : laidMet Tryz.prog [("unicode/utf8.acceptRanges", Rows.laid_unicode_utf8_acceptRanges), ("unicode/utf8.first", Rows.laid_unicode_utf8_first)] w := hL
  have h0 := Lib.laidMet.reads hL (n := "unicode/utf8.first") (d := Rows.laid_unicode_utf8_first) (by simp)
  have h1 := Lib.laidMet.reads hL (n := "unicode/utf8.acceptRanges") (d := Rows.laid_unicode_utf8_acceptRanges) (by simp)
  obtain ⟨m, hm⟩ := Tryz.laysM219.s1_3 w hS
  have hm : w.cell? ⟨0, 0, none⟩ = some (.int .i64 m) := hm
  obtain ⟨fs, hs, hf, ho⟩ := pairB_eq (P := Tryz.prog) (e := 247) (k := .u8) (by kernel_rfl)
  have k0 := gl_ints (P := Tryz.prog) (w := w) (g := 1) (t := 245) (e := 5) (n := 256) (k := .u8) (zs := Lib.firstTab) (by kernel_rfl) (by kernel_rfl) (by kernel_rfl) (by kernel_rfl) (by kernel_rfl) (by kernel_rfl) (by kernel_rfl) (of_decide_eq_true (by kernel_rfl)) (by kernel_rfl) h0
  have k1 := gl_pairs (P := Tryz.prog) (w := w) (g := 2) (t := 248) (e := 247) (n := 16) (k := .u8) (zs := accTab) (by kernel_rfl) (by kernel_rfl) (by kernel_rfl) hs hf ho (by kernel_rfl) (by kernel_rfl) (by kernel_rfl) (of_decide_eq_true (by kernel_rfl)) (by kernel_rfl) (by kernel_rfl) h1
  intro g v hg
  rcases gl_cons hg with ⟨rfl, rfl⟩ | hg
  . exact k0
  rcases gl_cons hg with ⟨rfl, rfl⟩ | hg
  . exact k1
  obtain ⟨rfl, rfl⟩ := gl_one hg
  exact ⟨cell_lt hm, id, m, hm⟩
end Go.Proofs.YtiofbnlbfmbodaaGreatDoor
end
section
namespace Go.Proofs.YtiofbnlbfmbodaaGreatDoor
open Go Go.Vc Go.Pl Go.Proofs
end Go.Proofs.YtiofbnlbfmbodaaGreatDoor
end
