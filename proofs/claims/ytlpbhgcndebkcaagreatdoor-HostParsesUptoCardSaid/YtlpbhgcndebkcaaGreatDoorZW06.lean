/- Texts of a verified walk, led together: Name3A, Name3W, Name4A, Name4W, Namp2A, Namp2W. -/
import Derived.Test.YtlpbhgcndebkcaaGreatDoorZW05
import Derived.Test.YtlpbhgcndebkcaaGreatDoorZV11
import Derived.Test.YtlpbhgcndebkcaaGreatDoorZV08
set_option linter.unusedVariables false
set_option linter.unusedSimpArgs false
section
namespace Go.Proofs.YtlpbhgcndebkcaaGreatDoor
open Go Go.Vc Go.Pl Go.Proofs
def c_slices_Equal_int_int : Con := { args := [.dat (.sl I64), .dat (.sl I64)], res := [.dat .bool], pre := fun _ => True, post := fun x y => y.1 = decide (x.1 = x.2.1) }
def c_oid_Begins : Con := { args := [.dat (.sl I64), .dat (.sl I64)], res := [.dat .bool], pre := fun _ => True, post := fun x y => y.1 = decide (x.1.take x.2.1.length = x.2.1) }
def c_name_wrap : Con := { args := [.dat I64, .dat (.sl BY)], res := [.own 5 U8], pre := fun x => isTagD x.1 = true ∧ lenF x.2.1 ≤ 16777215, post := fun x y => y.1 = putB (x.1, x.2.1.flatten) }
def c_name_Encode : Con := { args := [.dat (.sl AT)], res := [.own 5 U8, .dat I64], pre := fun x => x.1.length ≤ 1000000000, post := fun x y => (y.1, y.2.1) = EncN x.1 }
def c_name_only : Con := { args := [.dat BY, .dat I64], res := [.dat BY, .dat .bool], pre := fun x => lenB x.1 ≤ 100000000, post := fun x y => y.1 = (oneD x.1).1.2 ∧ y.2.1 = (decide ((oneD x.1).2 = 0) && decide ((oneD x.1).1.1 = x.2.1)) }
def c_r12_put : Con := { args := [.dat I64, .dat BY], res := [.own 5 U8], pre := fun x => 0 ≤ x.1 ∧ x.1 ≤ 255 ∧ lenB x.2.1 ≤ 16777215, post := fun x y => y.1 = putB (x.1, x.2.1) }
def c_r12_Encode : Con := { args := [.dat (.sl AT)], res := [.own 5 U8, .dat I64], pre := fun x => x.1.length ≤ 1000000000 ∧ ∀ a ∈ x.1, a.2.length ≤ 100000000, post := fun x y => (y.1, y.2.1) = EncN x.1 }
def c_r12_inside : Con := { args := [.dat BY, .dat I64], res := [.own 82 ET, .dat .bool], pre := fun x => lenB x.1 ≤ 100000000, post := fun x y => (y.1, y.2.1) = insD x.1 x.2.1 }
def c_r12_guess : Con := { args := [.dat BY], res := [.own 75 AT], pre := fun x => lenB x.1 ≤ 100000000, post := fun x y => y.1 = guessD x.1 }
def c_r12_Decode : Con := { args := [.dat BY], res := [.own 75 AT, .dat I64], pre := fun x => lenB x.1 ≤ 100000000, post := fun x y => decQ x.1 y.1 y.2.1 = true }
end Go.Proofs.YtlpbhgcndebkcaaGreatDoor
end
section
namespace Go.Proofs.YtlpbhgcndebkcaaGreatDoor
open Go Go.Vc Go.Pl Go.Proofs
set_option linter.unusedVariables false
set_option linter.unusedSimpArgs false
set_option maxRecDepth 20000
theorem adft_eq4 : Kd.dft (Kd.pair (Kd.int IntKind.i64) Kd.str) = adft := rfl
theorem edft_eq : Kd.dft (Kd.pair (Kd.int IntKind.i64) (Kd.sl (Kd.int IntKind.u8))) = edft := rfl
abbrev q24 := ((Int × List Int) × Int × Unit)
abbrev q25 := (List (Int × List Int) × Int × Int × Unit)
abbrev q255 (p0 : q2) (p1 : q10) := (List.getD p0.1 (q418 p1) q470 ≠ List.getD p0.2.1 (q418 p1) q470)
abbrev q256 (p0 : q6) (p1 : q18) (p2 : q16) (p3 : Int × Unit -> List (List Int) × Unit -> Prop) (p4 : q1) (p5 : Int × Unit -> List (List Int) × Unit -> Nat) := (((isTagD (49 : Int) = true
  /\ lenF [p0.1] <= q439) /\ (∀ (y_6 : q6), (wyZ y_6.1 /\ True) -> y_6.1 = putB ((49 : Int), List.flatten [p0.1]) -> ((q437 < q527 /\ (List.length p1.1 + List.length [y_6.1]) * (24 : Nat) <=
  q535 /\ List.length p1.1 + List.length [y_6.1] <= q491 /\ (lnZ p2.1) = (lnZ p2.1) /\ p2.1 = p2.1 /\ Value.bool false = Value.bool false /\ q421 = q421 /\ Value.slice none q437 q437 =
  Value.slice none q437 q437 /\ p2.1 = p2.1 /\ p3 (wrZ (p4.1 + q528), ()) (p1.1 ++ [y_6.1], ()) /\ p5 (wrZ (p4.1 + q528), ()) (p1.1 ++ [y_6.1], ()) < p5 p4 p1) /\ True) /\ True) /\ True) /\
  True)
abbrev q500 (p0 : q16) (p1 : q1) := (List.getD p0.1 (Int.toNat p1.1) q577)
abbrev q257 (p0 : q7) (p1 : q16) (p2 : q1) := (isTagD p0.1 = true /\ lenF [(q500 p1 p2).2] <= q439)
abbrev q258 (p0 : q16) (p1 : q1) := (kindD (q500 p0 p1).2)
abbrev q259 (p0 : q16) (p1 : q1) := (List.getD p0.1 (q411 p1) q485)
abbrev q260 (p0 : q6) (p1 : q6) := (isTagD (48 : Int) = true /\ lenF [p0.1, p1.1] <= q439)
abbrev q261 (p0 : q0) := (isTagD (6 : Int) = true /\ lenF [p0.1] <= q439)
abbrev q262 := (48 : Int)
abbrev q263 (p0 : q24) := (Kd.wf q438 p0.1 /\ wiZ p0.2.1 /\ True)
abbrev q264 (p0 : q7) (p1 : q16) (p2 : q1) := (q421 <= p0.1 /\ p0.1 <= (255 : Int) /\ lenB (q500 p1 p2).2 <= q439)
abbrev q265 (p0 : q6) (p1 : q6) := (q421 <= (48 : Int) /\ (48 : Int) <= (255 : Int) /\ lenB (p0.1 ++ p1.1) <= q439)
abbrev q266 (p0 : q6) := (q421 <= (49 : Int) /\ (49 : Int) <= (255 : Int) /\ lenB p0.1 <= q439)
abbrev q267 (p0 : q0) := (q421 <= (6 : Int) /\ (6 : Int) <= (255 : Int) /\ lenB p0.1 <= q439)
abbrev q268 (p0 : q25) := (Kd.wf (Kd.sl q438) p0.1 /\ wiZ p0.2.1 /\ wiZ p0.2.2.1 /\ True)
abbrev q269 (p0 : q24) := (p0.2.1 ≠ q421)
abbrev q580 := (Kd.pair (Kd.int IntKind.i64) (Kd.sl (Kd.int IntKind.u8)))
abbrev q542 := (Kd.dft q580)
abbrev q501 (p0 : List (Int × List Int) × Bool × Unit) := (List.getD p0.1 q540 q542)
abbrev q451 := (Kd.dft q580)
abbrev q270 (p0 : List (Int × List Int) × List (Int × List Int) × Unit) (p1 : List (Int × List Int) × Bool × Unit) := (List.length p0.1 + List.length [(wrZ (List.getD (q501 p1).2 (2 : Nat)
  q477), (List.getD p1.1 q527 q451).2)])
abbrev q271 (p0 : List (Int × List Int) × Bool × Unit) := (bif bif !p0.2.1 then true else decide ((lnZ p0.1) ≠ q445) then true else decide ((lnZ (q501 p0).2) ≠ (3 : Int)))
abbrev q272 (p0 : List (Int × List Int) × Bool × Unit) := ((bif !p0.2.1 then true else decide ((lnZ p0.1) ≠ q445)) = false -> ((bif !p0.2.1 then true else decide ((lnZ p0.1) ≠ q445)) ==
  false) = true /\ True)
abbrev q273 (p0 : List (Int × List Int) × Bool × Unit) := (List.getD (q501 p0).2 (2 : Nat) q477)
abbrev q274 (p0 : List (Int × List Int) × Bool × Unit) := (q421 <= q445 /\ q445 < (lnZ (q501 p0).2))
abbrev q275 (p0 : List (Int × List Int) × Bool × Unit) := (List.getD p0.1 q527 q451)
abbrev q276 := (Kd.dft q438)
abbrev q277 := (Kd.sl q484)
abbrev q473 (p0 : q0) := (p0.2.1 ≠ q529)
abbrev q278 (p0 : q0) := (decide (q473 p0) = false -> (decide (q473 p0) == false) = true /\ (decide (q473 p0) == false) = true /\ True)
abbrev q279 (p0 : q0) := (decide (q473 p0) = false -> (decide (q473 p0) == false) = true /\ True)
abbrev q280 (p0 : q0) := (decide (q473 p0) = false -> (decide (q473 p0) == false) = true)
abbrev q281 (p0 : q0) (p1 : q6) := (bif decide (q473 p0) then true else decide (p0.1 ≠ p1.1))
abbrev q282 (p0 : q0) := (decide (q473 p0) = false -> True)
abbrev q446 (p0 : List q218 × Bool × Unit) := (bif !p0.2.1 then true else decide ((lnZ p0.1) ≠ (2 : Int)))
def t119 : Prop :=
  ∀ (x : q2), (Kd.wf q230 x.1 /\ Kd.wf q230 x.2.1 /\ True) -> True -> (decide ((lnZ x.1) ≠ (lnZ x.2.1)) = true -> false = decide (x.1 = x.2.1)) /\ (decide ((lnZ x.1) ≠ (lnZ x.2.1)) = false ->
  ∃ (I : q8), ∃ (μ : q9), ((lnZ x.1) = (lnZ x.1) /\ Value.bool false = Value.bool false /\ x.1 = x.1 /\ x.2.1 = x.2.1 /\ I (q40, false, ()) ()) /\ ∀ (y : q10) (z : Unit), (q87 y) -> True -> I
  y z -> (decide (y.1 < (lnZ x.1)) = true -> (q40 <= y.1 /\ y.1 < (lnZ x.1)) /\ (q40 <= y.1 /\ y.1 < (lnZ x.2.1)) /\ (decide (q255 x y) = true -> false = decide (x.1 = x.2.1)) /\ (decide
  (q255 x y) = false -> (lnZ x.1) = (lnZ x.1) /\ Value.bool false = Value.bool false /\ x.1 = x.1 /\ x.2.1 = x.2.1 /\ I (wrZ (q89 y), y.2.1, ()) () /\ μ (wrZ (q89 y), y.2.1, ()) () < μ y z))
  /\ (decide (y.1 < (lnZ x.1)) = false -> true = decide (x.1 = x.2.1)))
theorem e119 : t119 = Con.vc c_slices_Equal_int_int GL (mkEnv ty [] [] [] [0, 1, 4, 5, 10, 12, 13, 14, 24]) {} Tryz.f119.ntmps Tryz.f119.results.toList (bodyOf Tryz.f119) := by kernel_rfl
theorem k119 : t119 := by
  unfold t119
  delta q2 q230 lnZ q8 q9 q40 q10 q87 q255 wrZ q89 q541 wiZ wbZ q418 q470 q458
  rintro ⟨a, b, _⟩ hx hp
  have hl : a.length ≤ 9223372036854775807 := hx.1.1
  try dsimp +instances only [dft_int, dft_sl, dft_str]
  simp only [true_and, and_true, eq_self_iff_true, implies_true, reduceCtorEq, false_implies, true_implies, decide_eq_true_eq, decide_eq_false_iff_not, beq_self_eq_true, Bool.not_eq_true', ne_eq, Decidable.not_not, List.nil_append, List.length_singleton, List.length_cons, List.length_nil, Nat.zero_add, Nat.add_zero, Nat.mul_one, and_self, beq_iff_eq, Bool.not_true, Bool.not_false, Bool.not_eq_false', Bool.cond_false_right, Bool.and_eq_true, imp_self, Bool.not_eq_true, Bool.cond_true_left, Bool.or_eq_true]
  refine ⟨fun h => (decide_eq_false (fun e => h (by rw [e]))).symm, fun h => ?_⟩
  refine ⟨fun y _ => 0 ≤ y.1 ∧ y.1 ≤ a.length ∧ a.take y.1.toNat = b.take y.1.toNat, fun y _ => ((a.length : Int) - y.1).toNat, ⟨Int.le_refl 0, by simp only; omega, rfl⟩, ?_⟩
  rintro ⟨i, q, _⟩ _ _ ⟨i0, i1, e⟩
  simp only at i0 i1 e ⊢
  refine ⟨fun hlt => ⟨⟨i0, hlt⟩, ⟨i0, by omega⟩, fun hne => ?_, fun he => ?_⟩, fun hge => ?_⟩
  . refine (decide_eq_false fun e2 => hne ?_).symm
    rw [e2]
  . rw [wrapM (i + 1) (by omega) (by omega)]
    refine ⟨⟨by omega, by omega, ?_⟩, by omega⟩
    rw [show (i + 1).toNat = i.toNat + 1 by omega, take_snoc a _ (by omega), take_snoc b _ (by omega), e, he]
  . rw [List.take_of_length_le (by omega), List.take_of_length_le (by omega)] at e
    exact (decide_eq_true e).symm
theorem h119 : c_slices_Equal_int_int.ok Tryz.prog GL 119 := con_ok (H := {}) (mkEnv_ok (gl := GL) (l := []) (q := []) (d := []) _ tyOk (by kernel_rfl) trivial trivial trivial) (by kernel_rfl) (by kernel_rfl) (Eq.mp e119 k119)
def t83 : Prop :=
  ∀ (x : q2), (Kd.wf q230 x.1 /\ Kd.wf q230 x.2.1 /\ True) -> True -> (q46 x) /\ (q46 x) /\ (q45 x) /\ (q44 x) /\ (q46 x) /\ (decide (q412 x) = true -> (q47 x) = true /\ (q47 x) = true /\
  True /\ (∀ (y : q4), (q49 y) -> y.1 = decide (List.take (Int.toNat (lnZ x.2.1)) x.1 = x.2.1) -> y.1 = decide (List.take (List.length x.2.1) x.1 = x.2.1)) /\ True) /\ (decide (q412 x) =
  !true -> false = decide (List.take (List.length x.2.1) x.1 = x.2.1))
theorem e83 : t83 = Con.vc c_oid_Begins GL (mkEnv ty [(119, conSem c_slices_Equal_int_int)] [] [] [0, 1, 4]) {} Tryz.f83.ntmps Tryz.f83.results.toList (bodyOf Tryz.f83) := by kernel_rfl
theorem k83 : t83 := by
  unfold t83
  delta q2 q230 q46 q45 q44 q412 q47 q4 q49 lnZ q541 q421 wbZ
  rintro ⟨a, b, _⟩ hx hp
  try dsimp +instances only [dft_int, dft_sl, dft_str]
  simp only [true_and, and_true, eq_self_iff_true, implies_true, reduceCtorEq, false_implies, true_implies, decide_eq_true_eq, decide_eq_false_iff_not, beq_self_eq_true, Bool.not_eq_true', ne_eq, Decidable.not_not, List.nil_append, List.length_singleton, List.length_cons, List.length_nil, Nat.zero_add, Nat.add_zero, Nat.mul_one, and_self, beq_iff_eq, Bool.not_true, Bool.not_false, Bool.not_eq_false', Bool.cond_false_right, Bool.and_eq_true, imp_self, Bool.not_eq_true, Bool.cond_true_left, Bool.or_eq_true]
  refine ⟨fun h => ⟨h, h, by omega, h⟩, fun h => ⟨h, h, fun y _ e => ?_⟩, fun h => ?_⟩
  . rw [e, Int.toNat_natCast]
  . refine (decide_eq_false fun e => h ?_).symm
    have := congrArg List.length e
    rw [List.length_take] at this
    omega
theorem h83 : c_oid_Begins.ok Tryz.prog GL 83 := con_ok (H := {}) (mkEnv_ok (gl := GL) (l := [(119, conSem c_slices_Equal_int_int)]) (q := []) (d := []) _ tyOk (by kernel_rfl) ⟨h119.call, trivial⟩ trivial trivial) (by kernel_rfl) (by kernel_rfl) (Eq.mp e83 k83)
def t73 : Prop :=
  ∀ (x : Int × List (List Int) × Unit), (wiZ x.1 /\ Kd.wf q188 x.2.1 /\ True) -> isTagD x.1 = true /\ lenF x.2.1 <= q439 -> lenB [] <= (900000000 : Nat) /\ (∀ (y : q0), (q244 y) -> (y.1,
  y.2.1) = PutD [] x.1 (List.flatten x.2.1) -> y.1 = putB (x.1, List.flatten x.2.1)) /\ True
theorem e73 : t73 = Con.vc c_name_wrap GL (mkEnv ty [(107, conSem c_der_Put)] [] [] [0, 1, 4, 5]) {} Tryz.f73.ntmps Tryz.f73.results.toList (bodyOf Tryz.f73) := by kernel_rfl
theorem k73 : t73 := by
  unfold t73
  delta wiZ q188 q439 q0 q244 wyZ
  rintro ⟨t, cs, _⟩ hx hp
  obtain ⟨h1, h2⟩ := hp
  simp only [lenF] at h1 h2
  try dsimp +instances only [dft_int, dft_sl, dft_str]
  simp only [true_and, and_true, eq_self_iff_true, implies_true, reduceCtorEq, false_implies, true_implies, decide_eq_true_eq, decide_eq_false_iff_not, beq_self_eq_true, Bool.not_eq_true', ne_eq, Decidable.not_not, List.nil_append, List.length_singleton, List.length_cons, List.length_nil, Nat.zero_add, Nat.add_zero, Nat.mul_one, and_self, beq_iff_eq, Bool.not_true, Bool.not_false, Bool.not_eq_false', Bool.cond_false_right, Bool.and_eq_true, imp_self, Bool.not_eq_true, Bool.cond_true_left, Bool.or_eq_true]
  refine ⟨by simp [lenB], ?_⟩
  rintro ⟨y, e, _⟩ _ h
  simp only at h ⊢
  rw [put_nil t _ h1 h2] at h
  exact (Prod.mk.inj h).1
theorem h73 : c_name_wrap.ok Tryz.prog GL 73 := con_ok (H := {}) (mkEnv_ok (gl := GL) (l := [(107, conSem c_der_Put)]) (q := []) (d := []) _ tyOk (by kernel_rfl) ⟨h107.call, trivial⟩ trivial trivial) (by kernel_rfl) (by kernel_rfl) (Eq.mp e73 k73)
def t33 : Prop :=
  ∀ (x : q16), (q150 x) -> List.length x.1 <= q88 -> True /\ (∀ (y : q4), (q49 y) -> y.1 = mayN x.1 -> ((!y.1) = true -> ([], (120 : Int)) = EncN x.1) /\ ((!y.1) = false -> ∃ (I : Int × Unit
  -> List (List Int) × Unit -> Prop), ∃ (μ : Int × Unit -> List (List Int) × Unit -> Nat), ((lnZ x.1) = (lnZ x.1) /\ x.1 = x.1 /\ Value.bool false = Value.bool false /\ q40 = q40 /\
  Value.slice none q74 q74 = Value.slice none q74 q74 /\ x.1 = x.1 /\ I (q40, ()) ([], ())) /\ ∀ (y : q1) (z : q18), (q36 y) -> (Kd.wf q188 z.1 /\ True) -> I y z -> (decide (y.1 < (lnZ x.1))
  = true -> (q40 <= y.1 /\ y.1 < (lnZ x.1)) /\ q76 <= q72 /\ True /\ (∀ (y_1 : q7), (q99 y_1) -> y_1.1 = (q258 x y).1 /\ y_1.2.1 = (q258 x y).2 -> True /\ (∀ (y_2 : q0), (q244 y_2) -> (y_2.1,
  y_2.2.1) = EncO [q77, (5 : Int), (4 : Int), (q259 x y).1] -> (((q261 y_2) /\ (∀ (y_3 : q6), (q159 y_3) -> y_3.1 = putB ((6 : Int), List.flatten [y_2.1]) -> (((((q257 y_1 x y) /\ (∀ (y_4 :
  q6), (q159 y_4) -> y_4.1 = putB (y_1.1, List.flatten [(q259 x y).2]) -> (((q260 y_3 y_4) /\ (∀ (y_5 : q6), (q159 y_5) -> y_5.1 = putB (q262, List.flatten [y_3.1, y_4.1]) -> (q256 y_5 z x I
  y μ) /\ True) /\ True) /\ True) /\ True) /\ True) /\ True) /\ True) /\ True) /\ True) /\ True) /\ (((q261 y_2) /\ (∀ (y_3 : q6), (q159 y_3) -> y_3.1 = putB ((6 : Int), List.flatten [y_2.1])
  -> ((((q257 y_1 x y) /\ (∀ (y_4 : q6), (q159 y_4) -> y_4.1 = putB (y_1.1, List.flatten [(q259 x y).2]) -> (((q260 y_3 y_4) /\ (∀ (y_5 : q6), (q159 y_5) -> y_5.1 = putB (q262, List.flatten
  [y_3.1, y_4.1]) -> (q256 y_5 z x I y μ) /\ True) /\ True) /\ True) /\ True) /\ True) /\ True) /\ True) /\ True) /\ True) /\ (((q261 y_2) /\ (∀ (y_3 : q6), (q159 y_3) -> y_3.1 = putB ((6 :
  Int), List.flatten [y_2.1]) -> (((q257 y_1 x y) /\ (∀ (y_4 : q6), (q159 y_4) -> y_4.1 = putB (y_1.1, List.flatten [(q259 x y).2]) -> (((q260 y_3 y_4) /\ (∀ (y_5 : q6), (q159 y_5) -> y_5.1 =
  putB (q262, List.flatten [y_3.1, y_4.1]) -> (q256 y_5 z x I y μ) /\ True) /\ True) /\ True) /\ True) /\ True) /\ True) /\ True) /\ True) /\ (((q261 y_2) /\ (∀ (y_3 : q6), (q159 y_3) ->
  y_3.1 = putB ((6 : Int), List.flatten [y_2.1]) -> ((q257 y_1 x y) /\ (∀ (y_4 : q6), (q159 y_4) -> y_4.1 = putB (y_1.1, List.flatten [(q259 x y).2]) -> (((q260 y_3 y_4) /\ (∀ (y_5 : q6),
  (q159 y_5) -> y_5.1 = putB (q262, List.flatten [y_3.1, y_4.1]) -> (q256 y_5 z x I y μ) /\ True) /\ True) /\ True) /\ True) /\ True) /\ True) /\ True) /\ True) /\ True) /\ True) /\ True) /\
  ((((q261 y_2) /\ (∀ (y_3 : q6), (q159 y_3) -> y_3.1 = putB ((6 : Int), List.flatten [y_2.1]) -> ((((q257 y_1 x y) /\ (∀ (y_4 : q6), (q159 y_4) -> y_4.1 = putB (y_1.1, List.flatten [(q259 x
  y).2]) -> (((q260 y_3 y_4) /\ (∀ (y_5 : q6), (q159 y_5) -> y_5.1 = putB (q262, List.flatten [y_3.1, y_4.1]) -> (q256 y_5 z x I y μ) /\ True) /\ True) /\ True) /\ True) /\ True) /\ True) /\
  True) /\ True) /\ True) /\ (((q261 y_2) /\ (∀ (y_3 : q6), (q159 y_3) -> y_3.1 = putB ((6 : Int), List.flatten [y_2.1]) -> (((q257 y_1 x y) /\ (∀ (y_4 : q6), (q159 y_4) -> y_4.1 = putB
  (y_1.1, List.flatten [(q259 x y).2]) -> (((q260 y_3 y_4) /\ (∀ (y_5 : q6), (q159 y_5) -> y_5.1 = putB (q262, List.flatten [y_3.1, y_4.1]) -> (q256 y_5 z x I y μ) /\ True) /\ True) /\ True)
  /\ True) /\ True) /\ True) /\ True) /\ True) /\ (((q261 y_2) /\ (∀ (y_3 : q6), (q159 y_3) -> y_3.1 = putB ((6 : Int), List.flatten [y_2.1]) -> ((q257 y_1 x y) /\ (∀ (y_4 : q6), (q159 y_4)
  -> y_4.1 = putB (y_1.1, List.flatten [(q259 x y).2]) -> (((q260 y_3 y_4) /\ (∀ (y_5 : q6), (q159 y_5) -> y_5.1 = putB (q262, List.flatten [y_3.1, y_4.1]) -> (q256 y_5 z x I y μ) /\ True) /\
  True) /\ True) /\ True) /\ True) /\ True) /\ True) /\ True) /\ True) /\ True) /\ ((((q261 y_2) /\ (∀ (y_3 : q6), (q159 y_3) -> y_3.1 = putB ((6 : Int), List.flatten [y_2.1]) -> (((q257 y_1
  x y) /\ (∀ (y_4 : q6), (q159 y_4) -> y_4.1 = putB (y_1.1, List.flatten [(q259 x y).2]) -> (((q260 y_3 y_4) /\ (∀ (y_5 : q6), (q159 y_5) -> y_5.1 = putB (q262, List.flatten [y_3.1, y_4.1])
  -> (q256 y_5 z x I y μ) /\ True) /\ True) /\ True) /\ True) /\ True) /\ True) /\ True) /\ True) /\ (((q261 y_2) /\ (∀ (y_3 : q6), (q159 y_3) -> y_3.1 = putB ((6 : Int), List.flatten
  [y_2.1]) -> ((q257 y_1 x y) /\ (∀ (y_4 : q6), (q159 y_4) -> y_4.1 = putB (y_1.1, List.flatten [(q259 x y).2]) -> (((q260 y_3 y_4) /\ (∀ (y_5 : q6), (q159 y_5) -> y_5.1 = putB (q262,
  List.flatten [y_3.1, y_4.1]) -> (q256 y_5 z x I y μ) /\ True) /\ True) /\ True) /\ True) /\ True) /\ True) /\ True) /\ True) /\ True) /\ ((((q261 y_2) /\ (∀ (y_3 : q6), (q159 y_3) -> y_3.1
  = putB ((6 : Int), List.flatten [y_2.1]) -> ((q257 y_1 x y) /\ (∀ (y_4 : q6), (q159 y_4) -> y_4.1 = putB (y_1.1, List.flatten [(q259 x y).2]) -> (((q260 y_3 y_4) /\ (∀ (y_5 : q6), (q159
  y_5) -> y_5.1 = putB (q262, List.flatten [y_3.1, y_4.1]) -> (q256 y_5 z x I y μ) /\ True) /\ True) /\ True) /\ True) /\ True) /\ True) /\ True) /\ True) /\ True) /\ True) /\ True) /\ True)
  /\ True) /\ True) /\ (decide (y.1 < (lnZ x.1)) = false -> (isTagD q262 = true /\ lenF z.1 <= q439) /\ (∀ (y : q6), (q159 y) -> y.1 = putB (q262, List.flatten z.1) -> (y.1, q40) = EncN x.1)
  /\ True))) /\ True
theorem e33 : t33 = Con.vc c_name_Encode GL (mkEnv ty [(43, conSem c_name_May), (71, conSem c_text_Kind), (72, conSem c_oid_Encode), (73, conSem c_name_wrap)] [] [] [0, 2, 3, 4, 6, 7, 9, 13, 14, 15, 16, 17]) {} Tryz.f33.ntmps Tryz.f33.results.toList (bodyOf Tryz.f33) := by kernel_rfl
theorem k33 : t33 := by
  unfold t33
  delta q16 q150 q88 q4 q49 lnZ q40 q74 q1 q18 q36 q188 q76 q72 q7 q99 q258 q0 q244 q77 q259 q261 q6 q159 q257 q260 q262 q256 q439 q484 wbZ wiZ q500 wyZ q411 q485 q437 q527 q535 q491 q421 wrZ q528 q541 q577
  rintro ⟨n, _⟩ hx hp
  have hp : n.length ≤ 1000000000 := hp
  try dsimp +instances only [dft_int, dft_sl, dft_str]
  simp only [true_and, and_true, eq_self_iff_true, implies_true, reduceCtorEq, false_implies, true_implies, decide_eq_true_eq, decide_eq_false_iff_not, beq_self_eq_true, Bool.not_eq_true', ne_eq, Decidable.not_not, List.nil_append, List.length_singleton, List.length_cons, List.length_nil, Nat.zero_add, Nat.add_zero, Nat.mul_one, and_self, beq_iff_eq, Bool.not_true, Bool.not_false, Bool.not_eq_false', Bool.cond_false_right, Bool.and_eq_true, imp_self, Bool.not_eq_true, Bool.cond_true_left, Bool.or_eq_true]
  simp only [adft_eq4]
  rintro ⟨m, _⟩ _ em
  simp only at em ⊢
  subst em
  refine ⟨fun h => by rw [EncN, if_neg (by rw [h]; decide)], fun h => ?_⟩
  obtain ⟨h16, hA⟩ := mayN_args h
  have hfl := flat_len n hA
  refine ⟨fun y z => 0 ≤ y.1 ∧ y.1 ≤ n.length ∧ z.1 = (n.take y.1.toNat).map attrE, fun y _ => ((n.length : Int) - y.1).toNat, ⟨Int.le_refl 0, by simp only; omega, rfl⟩, ?_⟩
  rintro ⟨i, _⟩ ⟨z, _⟩ _ _ ⟨i0, i1, ez⟩
  simp only at i0 i1 ez ⊢
  have hzl : z.length ≤ n.length := by rw [ez, List.length_map, List.length_take]; omega
  refine ⟨fun hlt => ⟨⟨i0, hlt⟩, by decide, ?_⟩, fun hge => ?_⟩
  . have hm := hA _ (mem_getD adft n i.toNat (by omega))
    have hst : (n.take (i.toNat + 1)).map attrE = z ++ [attrE (n.getD i.toNat adft)] := by rw [take_snocA adft n _ (by omega), List.map_append, ← ez]; rfl
    generalize n.getD i.toNat adft = a at hm hst
    have hv := mayA_len hm
    have hk := (may_kind hm).2
    have hB := attrB_len hm
    have hE := attrE_len hm
    have hr := label_range (mayA_label hm)
    have p1 : (putB (6, [85, 4, a.1])).length = 5 := put_small (x := (6, [85, 4, a.1])) (by simp)
    have p2 : (putB (elK a)).length = 2 + a.2.length := put_small (x := elK a) (by show a.2.length < 128; omega)
    rintro ⟨k, e, _⟩ _ ⟨ek, ee⟩
    simp only at ek ee ⊢
    rintro ⟨o, f, _⟩ _ eo
    simp only at eo ⊢
    rw [enc_oid hm] at eo
    obtain ⟨rfl, rfl⟩ := Prod.mk.inj eo
    refine ⟨⟨by decide, by simp [lenF]⟩, ?_⟩
    rintro ⟨w1, _⟩ _ e1
    simp only [flat_one] at e1 ⊢
    subst e1
    refine ⟨⟨by rw [ek]; rcases hk with h | h <;> rw [h] <;> decide, by rw [lenF, flat_one]; omega⟩, ?_⟩
    rintro ⟨w2, _⟩ _ e2
    simp only at e2 ⊢
    rw [ek] at e2
    have e2 : w2 = putB (elK a) := e2
    subst e2
    refine ⟨⟨by decide, by rw [lenF, flat_two, List.length_append]; omega⟩, ?_⟩
    rintro ⟨w3, _⟩ _ e3
    simp only [flat_two] at e3 ⊢
    have e3 : w3 = attrB a := e3
    subst e3
    refine ⟨⟨by decide, by rw [lenF, flat_one]; omega⟩, ?_⟩
    rintro ⟨w4, _⟩ _ e4
    simp only at e4 ⊢
    have e4 : w4 = attrE a := e4
    subst e4
    rw [wrapK (i + 1) (by omega) (by omega)]
    refine ⟨by decide, by omega, by omega, ⟨by omega, by omega, ?_⟩, by omega⟩
    rw [show (i + 1).toNat = i.toNat + 1 by omega, hst]
  . have ezz : z.flatten = n.flatMap attrE := by rw [ez, List.take_of_length_le (by omega)]; rfl
    refine ⟨⟨by decide, by rw [lenF, ezz]; omega⟩, ?_⟩
    rintro ⟨w, _⟩ _ ew
    simp only at ew ⊢
    rw [ezz] at ew
    rw [ew, EncN, if_pos h]
    rfl
theorem h33 : c_name_Encode.ok Tryz.prog GL 33 := con_ok (H := {}) (mkEnv_ok (gl := GL) (l := [(43, conSem c_name_May), (71, conSem c_text_Kind), (72, conSem c_oid_Encode), (73, conSem c_name_wrap)]) (q := []) (d := []) _ tyOk (by kernel_rfl) ⟨h43.call, h71.call, h72.call, h73.call, trivial⟩ trivial trivial) (by kernel_rfl) (by kernel_rfl) (Eq.mp e33 k33)
def t81 : Prop :=
  ∀ (x : q0), (q244 x) -> lenB x.1 <= q175 -> lenB x.1 <= q88 /\ (∀ (y : q24), (q263 y) -> (y.1, y.2.1) = oneD x.1 -> q76 <= q72 /\ (decide (y.2.1 = q40) = true -> True) /\ (decide (y.2.1 =
  q40) = true -> (decide (y.2.1 = q40) == true) = true /\ True) /\ (decide (y.2.1 = q40) = true -> True) /\ (decide (y.2.1 = q40) = true -> (decide (y.2.1 = q40) == true) = true /\ (decide
  (y.2.1 = q40) == true) = true /\ True) /\ (decide (y.2.1 = q40) = true -> (decide (y.2.1 = q40) == true) = true) /\ y.1.2 = (oneD x.1).1.2 /\ (bif decide (y.2.1 = q40) then decide (y.1.1 =
  x.2.1) else false) = (decide ((oneD x.1).2 = q40) && decide ((oneD x.1).1.1 = x.2.1))) /\ True
theorem e81 : t81 = Con.vc c_name_only GL (mkEnv ty [(40, conSem c_der_One)] [] [] [0, 1, 4, 5, 6, 7]) {} Tryz.f81.ntmps Tryz.f81.results.toList (bodyOf Tryz.f81) := by kernel_rfl
theorem k81 : t81 := by
  unfold t81
  delta q0 q244 q175 q88 q24 q263 q76 q72 q40 wyZ wiZ q438 q541
  rintro ⟨b, t, _⟩ hx hp
  have hp : b.length ≤ 100000000 := hp
  try dsimp +instances only [dft_int, dft_sl, dft_str]
  simp only [true_and, and_true, eq_self_iff_true, implies_true, reduceCtorEq, false_implies, true_implies, decide_eq_true_eq, decide_eq_false_iff_not, beq_self_eq_true, Bool.not_eq_true', ne_eq, Decidable.not_not, List.nil_append, List.length_singleton, List.length_cons, List.length_nil, Nat.zero_add, Nat.add_zero, Nat.mul_one, and_self, beq_iff_eq, Bool.not_true, Bool.not_false, Bool.not_eq_false', Bool.cond_false_right, Bool.and_eq_true, imp_self, Bool.not_eq_true, Bool.cond_true_left, Bool.or_eq_true]
  refine ⟨by rw [lenB]; omega, ?_⟩
  rintro ⟨x, e, _⟩ _ h
  simp only at h ⊢
  rw [← h]
  exact ⟨by decide, rfl, rfl⟩
theorem h81 : c_name_only.ok Tryz.prog GL 81 := con_ok (H := {}) (mkEnv_ok (gl := GL) (l := [(40, conSem c_der_One)]) (q := []) (d := []) _ tyOk (by kernel_rfl) ⟨h40.call, trivial⟩ trivial trivial) (by kernel_rfl) (by kernel_rfl) (Eq.mp e81 k81)
def t77 : Prop :=
  ∀ (x : q14), (wiZ x.1 /\ wyZ x.2.1 /\ True) -> q40 <= x.1 /\ x.1 <= (255 : Int) /\ lenB x.2.1 <= q439 -> (lenB x.2.1 <= q439 /\ q40 <= x.1 /\ x.1 <= (255 : Int)) /\ (∀ (y : q6), (q159 y) ->
  y.1 = putB (x.1, x.2.1) -> y.1 = putB (x.1, x.2.1)) /\ True
theorem e77 : t77 = Con.vc c_r12_put GL (mkEnv ty [(111, conSem c_r01_Bytes)] [] [] [0, 1, 4]) {} Tryz.f77.ntmps Tryz.f77.results.toList (bodyOf Tryz.f77) := by kernel_rfl
theorem k77 : t77 := by
  unfold t77
  delta q14 wiZ wyZ q40 q439 q6 q159
  rintro ⟨t, c, _⟩ hx hp
  obtain ⟨h1, h2, h3⟩ := hp
  simp only at h1 h2 h3
  try dsimp +instances only [dft_int, dft_sl, dft_str]
  simp only [true_and, and_true, eq_self_iff_true, implies_true, reduceCtorEq, false_implies, true_implies, decide_eq_true_eq, decide_eq_false_iff_not, beq_self_eq_true, Bool.not_eq_true', ne_eq, Decidable.not_not, List.nil_append, List.length_singleton, List.length_cons, List.length_nil, Nat.zero_add, Nat.add_zero, Nat.mul_one, and_self, beq_iff_eq, Bool.not_true, Bool.not_false, Bool.not_eq_false', Bool.cond_false_right, Bool.and_eq_true, imp_self, Bool.not_eq_true, Bool.cond_true_left, Bool.or_eq_true]
  exact ⟨h3, h1, h2⟩
theorem h77 : c_r12_put.ok Tryz.prog GL 77 := con_ok (H := {}) (mkEnv_ok (gl := GL) (l := [(111, conSem c_r01_Bytes)]) (q := []) (d := []) _ tyOk (by kernel_rfl) ⟨h111.call, trivial⟩ trivial trivial) (by kernel_rfl) (by kernel_rfl) (Eq.mp e77 k77)
def t36 : Prop :=
  ∀ (x : q16), (q150 x) -> (List.length x.1 <= q88 /\ ∀ (a : q17), a ∈ x.1 -> List.length a.2 <= q175) -> (List.length x.1 <= q88 /\ ∀ (a : q17), a ∈ x.1 -> List.length a.2 <= q175) /\ (∀ (y
  : q4), (q49 y) -> y.1 = mayN x.1 -> ((!y.1) = true -> ([], (120 : Int)) = EncN x.1) /\ ((!y.1) = false -> ∃ (I : q19), ∃ (μ : q20), (Value.bool false = Value.bool false /\ q40 = q40 /\
  Value.slice none q74 q74 = Value.slice none q74 q74 /\ x.1 = x.1 /\ I (q40, ()) ([], ())) /\ ∀ (y : q1) (z : q6), (q36 y) -> (q159 z) -> I y z -> (decide (y.1 < (lnZ x.1)) = true -> (q40 <=
  y.1 /\ y.1 < (lnZ x.1)) /\ True /\ (∀ (y_1 : q0), (q244 y_1) -> (y_1.1, y_1.2.1) = EncO [q77, (5 : Int), (4 : Int), (q259 x y).1] -> (q40 <= y.1 /\ y.1 < (lnZ x.1)) /\ List.length (q259 x
  y).2 <= q88 /\ (∀ (y_2 : q7), (q99 y_2) -> y_2.1 = (q258 x y).1 /\ y_2.2.1 = (q258 x y).2 -> (q40 <= y.1 /\ y.1 < (lnZ x.1)) /\ ((q267 y_1) /\ (∀ (y_3 : q6), (q159 y_3) -> y_3.1 = putB ((6
  : Int), y_1.1) -> ((((q264 y_2 x y) /\ (∀ (y_4 : q6), (q159 y_4) -> y_4.1 = putB (y_2.1, (q259 x y).2) -> (q74 < q42 /\ (q250 y_3 y_4) * q42 <= q158 /\ List.length y_3.1 + List.length y_4.1
  <= q157 /\ (q265 y_3 y_4) /\ (∀ (y_5 : q6), (q159 y_5) -> y_5.1 = putB (q262, y_3.1 ++ y_4.1) -> (q266 y_5) /\ (∀ (y_6 : q6), (q159 y_6) -> y_6.1 = putB ((49 : Int), y_5.1) -> q74 < q42 /\
  (q250 z y_6) * q42 <= q158 /\ List.length z.1 + List.length y_6.1 <= q157 /\ Value.bool false = Value.bool false /\ q40 = q40 /\ Value.slice none q74 q74 = Value.slice none q74 q74 /\ x.1 =
  x.1 /\ I (wrZ (q249 y), ()) (z.1 ++ y_6.1, ()) /\ μ (wrZ (q249 y), ()) (z.1 ++ y_6.1, ()) < μ y z) /\ True) /\ True) /\ True) /\ True) /\ True) /\ True) /\ True) /\ True) /\ (((q267 y_1) /\
  (∀ (y_3 : q6), (q159 y_3) -> y_3.1 = putB ((6 : Int), y_1.1) -> (((q264 y_2 x y) /\ (∀ (y_4 : q6), (q159 y_4) -> y_4.1 = putB (y_2.1, (q259 x y).2) -> (q74 < q42 /\ (q250 y_3 y_4) * q42 <=
  q158 /\ List.length y_3.1 + List.length y_4.1 <= q157 /\ (q265 y_3 y_4) /\ (∀ (y_5 : q6), (q159 y_5) -> y_5.1 = putB (q262, y_3.1 ++ y_4.1) -> (q266 y_5) /\ (∀ (y_6 : q6), (q159 y_6) ->
  y_6.1 = putB ((49 : Int), y_5.1) -> q74 < q42 /\ (q250 z y_6) * q42 <= q158 /\ List.length z.1 + List.length y_6.1 <= q157 /\ Value.bool false = Value.bool false /\ q40 = q40 /\ Value.slice
  none q74 q74 = Value.slice none q74 q74 /\ x.1 = x.1 /\ I (wrZ (q249 y), ()) (z.1 ++ y_6.1, ()) /\ μ (wrZ (q249 y), ()) (z.1 ++ y_6.1, ()) < μ y z) /\ True) /\ True) /\ True) /\ True) /\
  True) /\ True) /\ True) /\ (((q267 y_1) /\ (∀ (y_3 : q6), (q159 y_3) -> y_3.1 = putB ((6 : Int), y_1.1) -> ((q264 y_2 x y) /\ (∀ (y_4 : q6), (q159 y_4) -> y_4.1 = putB (y_2.1, (q259 x y).2)
  -> (q74 < q42 /\ (q250 y_3 y_4) * q42 <= q158 /\ List.length y_3.1 + List.length y_4.1 <= q157 /\ (q265 y_3 y_4) /\ (∀ (y_5 : q6), (q159 y_5) -> y_5.1 = putB (q262, y_3.1 ++ y_4.1) -> (q266
  y_5) /\ (∀ (y_6 : q6), (q159 y_6) -> y_6.1 = putB ((49 : Int), y_5.1) -> q74 < q42 /\ (q250 z y_6) * q42 <= q158 /\ List.length z.1 + List.length y_6.1 <= q157 /\ Value.bool false =
  Value.bool false /\ q40 = q40 /\ Value.slice none q74 q74 = Value.slice none q74 q74 /\ x.1 = x.1 /\ I (wrZ (q249 y), ()) (z.1 ++ y_6.1, ()) /\ μ (wrZ (q249 y), ()) (z.1 ++ y_6.1, ()) < μ y
  z) /\ True) /\ True) /\ True) /\ True) /\ True) /\ True) /\ True) /\ True) /\ True) /\ True) /\ True) /\ (decide (y.1 < (lnZ x.1)) = false -> (q40 <= q262 /\ q262 <= (255 : Int) /\ lenB z.1
  <= q439) /\ (∀ (y : q6), (q159 y) -> y.1 = putB (q262, z.1) -> (y.1, q40) = EncN x.1) /\ True))) /\ True
theorem e36 : t36 = Con.vc c_r12_Encode GL (mkEnv ty [(49, conSem c_r12_May), (75, conSem c_r03_Encode), (76, conSem c_r05_Kind), (77, conSem c_r12_put)] [] [] [0, 2, 3, 4, 5, 6, 8, 10, 13, 17]) {} Tryz.f36.ntmps Tryz.f36.results.toList (bodyOf Tryz.f36) := by kernel_rfl
theorem k36 : t36 := by
  unfold t36
  delta q16 q150 q88 q17 q175 q4 q49 q19 q20 q40 q74 q1 q6 q36 q159 lnZ q0 q244 q77 q259 q7 q99 q258 q267 q264 q42 q250 q158 q157 q265 q262 q266 wrZ q249 q439 q484 wbZ wiZ wyZ q411 q485 q500 q421 q458 q541 q577
  rintro ⟨n, _⟩ hx hp
  have hp2 := hp
  obtain ⟨h1, h2⟩ := hp2
  simp only at h1 h2
  try dsimp +instances only [dft_int, dft_sl, dft_str]
  simp only [true_and, and_true, eq_self_iff_true, implies_true, reduceCtorEq, false_implies, true_implies, decide_eq_true_eq, decide_eq_false_iff_not, beq_self_eq_true, Bool.not_eq_true', ne_eq, Decidable.not_not, List.nil_append, List.length_singleton, List.length_cons, List.length_nil, Nat.zero_add, Nat.add_zero, Nat.mul_one, and_self, beq_iff_eq, Bool.not_true, Bool.not_false, Bool.not_eq_false', Bool.cond_false_right, Bool.and_eq_true, imp_self, Bool.not_eq_true, Bool.cond_true_left, Bool.or_eq_true]
  simp only [adft_eq4]
  refine ⟨⟨h1, h2⟩, ?_⟩
  rintro ⟨m, _⟩ _ em
  simp only at em ⊢
  subst em
  refine ⟨fun h => by rw [EncN, if_neg (by rw [h]; decide)], fun h => ?_⟩
  obtain ⟨h16, hA⟩ := mayN_args h
  have hfl : ∀ i, ((n.take i).flatMap attrE).length ≤ 1200 := fun i => by
    have := flat_len (n.take i) fun a ha => hA a (List.mem_of_mem_take ha)
    have : (n.take i).length ≤ n.length := by rw [List.length_take]; omega
    omega
  refine ⟨fun y z => 0 ≤ y.1 ∧ y.1 ≤ n.length ∧ z.1 = (n.take y.1.toNat).flatMap attrE, fun y _ => ((n.length : Int) - y.1).toNat, ⟨Int.le_refl 0, by simp only; omega, rfl⟩, ?_⟩
  rintro ⟨i, _⟩ ⟨z, _⟩ _ _ ⟨i0, i1, ez⟩
  simp only at i0 i1 ez ⊢
  have hzl := hfl i.toNat
  rw [← ez] at hzl
  refine ⟨fun hlt => ⟨⟨i0, hlt⟩, ?_⟩, fun hge => ?_⟩
  . have hm := hA _ (mem_getD adft n i.toNat (by omega))
    have hst : (n.take (i.toNat + 1)).flatMap attrE = z ++ attrE (n.getD i.toNat adft) := by rw [take_snocA adft n _ (by omega), List.flatMap_append, ← ez]; simp
    generalize n.getD i.toNat adft = a at hm hst
    have hv := mayA_len hm
    have hk := (may_kind hm).2
    have hB := attrB_len hm
    have hE := attrE_len hm
    have p1 : (putB (6, [85, 4, a.1])).length = 5 := put_small (x := (6, [85, 4, a.1])) (by simp)
    have p2 : (putB (elK a)).length = 2 + a.2.length := put_small (x := elK a) (by show a.2.length < 128; omega)
    rintro ⟨o, f, _⟩ _ eo
    simp only at eo ⊢
    rw [enc_oid hm] at eo
    obtain ⟨rfl, rfl⟩ := Prod.mk.inj eo
    refine ⟨⟨i0, hlt⟩, by omega, ?_⟩
    rintro ⟨k, e, _⟩ _ ⟨ek, ee⟩
    simp only at ek ee ⊢
    refine ⟨⟨i0, hlt⟩, ⟨by decide, by decide, by simp [lenB]⟩, ?_⟩
    rintro ⟨w1, _⟩ _ e1
    simp only at e1 ⊢
    subst e1
    refine ⟨⟨by omega, by omega, by rw [lenB]; omega⟩, ?_⟩
    rintro ⟨w2, _⟩ _ e2
    simp only at e2 ⊢
    rw [ek] at e2
    have e2 : w2 = putB (elK a) := e2
    subst e2
    refine ⟨by decide, by omega, by omega, ⟨by decide, by decide, by rw [lenB, List.length_append]; omega⟩, ?_⟩
    rintro ⟨w3, _⟩ _ e3
    simp only at e3 ⊢
    have e3 : w3 = attrB a := e3
    subst e3
    refine ⟨⟨by decide, by decide, by rw [lenB]; omega⟩, ?_⟩
    rintro ⟨w4, _⟩ _ e4
    simp only at e4 ⊢
    have e4 : w4 = attrE a := e4
    subst e4
    rw [wrapK (i + 1) (by omega) (by omega)]
    refine ⟨by decide, by omega, by omega, ⟨by omega, by omega, ?_⟩, by omega⟩
    rw [show (i + 1).toNat = i.toNat + 1 by omega, hst]
  . have ezz : z = n.flatMap attrE := by rw [ez, List.take_of_length_le (by omega)]
    refine ⟨⟨by decide, by decide, by rw [lenB]; omega⟩, ?_⟩
    rintro ⟨w, _⟩ _ ew
    simp only at ew ⊢
    rw [ew, ezz, EncN, if_pos h]
    rfl
theorem h36 : c_r12_Encode.ok Tryz.prog GL 36 := con_ok (H := {}) (mkEnv_ok (gl := GL) (l := [(49, conSem c_r12_May), (75, conSem c_r03_Encode), (76, conSem c_r05_Kind), (77, conSem c_r12_put)]) (q := []) (d := []) _ tyOk (by kernel_rfl) ⟨h49.call, h75.call, h76.call, h77.call, trivial⟩ trivial trivial) (by kernel_rfl) (by kernel_rfl) (Eq.mp e36 k36)
def t89 : Prop :=
  ∀ (x : q0), (q244 x) -> lenB x.1 <= q175 -> lenB x.1 <= q88 /\ (∀ (y : q24), (q263 y) -> (y.1, y.2.1) = oneD x.1 -> q76 <= q72 /\ (decide (q269 y) = false -> True) /\ (decide (q269 y) =
  false -> (decide (q269 y) == false) = true /\ True) /\ (decide (q269 y) = false -> True) /\ (decide (q269 y) = false -> (decide (q269 y) == false) = true /\ (decide (q269 y) == false) =
  true /\ True) /\ (decide (q269 y) = false -> (decide (q269 y) == false) = true) /\ ((bif decide (q269 y) then true else decide (y.1.1 ≠ x.2.1)) = true -> ([], false) = insD x.1 x.2.1) /\
  ((bif decide (q269 y) then true else decide (y.1.1 ≠ x.2.1)) = false -> lenB y.1.2 <= q88 /\ (∀ (y_1 : q25), (q268 y_1) -> (y_1.1, y_1.2.1, y_1.2.2.1) = allD y.1.2 -> (y_1.1, decide
  (y_1.2.2.1 = q40)) = insD x.1 x.2.1) /\ True)) /\ True
theorem e89 : t89 = Con.vc c_r12_inside GL (mkEnv ty [(47, conSem c_r01_One), (124, conSem c_r01_All)] [] [] [0, 1, 4, 5, 6, 7, 8, 22]) {} Tryz.f89.ntmps Tryz.f89.results.toList (bodyOf Tryz.f89) := by kernel_rfl
theorem k89 : t89 := by
  unfold t89
  delta q0 q244 q175 q88 q24 q263 q76 q72 q269 q25 q268 q40 wyZ wiZ q438 q421 q541
  rintro ⟨b, t, _⟩ hx hp
  have hp : b.length ≤ 100000000 := hp
  try dsimp +instances only [dft_int, dft_sl, dft_str]
  simp only [true_and, and_true, eq_self_iff_true, implies_true, reduceCtorEq, false_implies, true_implies, decide_eq_true_eq, decide_eq_false_iff_not, beq_self_eq_true, Bool.not_eq_true', ne_eq, Decidable.not_not, List.nil_append, List.length_singleton, List.length_cons, List.length_nil, Nat.zero_add, Nat.add_zero, Nat.mul_one, and_self, beq_iff_eq, Bool.not_true, Bool.not_false, Bool.not_eq_false', Bool.cond_false_right, Bool.and_eq_true, imp_self, Bool.not_eq_true, Bool.cond_true_left, Bool.or_eq_true]
  have hol := oneD_len b
  refine ⟨by rw [lenB]; omega, ?_⟩
  rintro ⟨x, e, _⟩ _ h
  simp only at h ⊢
  rw [insD, ← h]
  rw [← h] at hol
  refine ⟨by decide, fun h2 => by rw [if_pos h2], fun h2 => ⟨by rw [lenB]; simp only at hol; omega, ?_⟩⟩
  simp only [Bool.or_eq_false_iff, decide_eq_false_iff_not] at h2
  rintro ⟨l, n, e2, _⟩ _ el
  simp only at el ⊢
  rw [if_neg (fun hh => hh.elim h2.1 h2.2), ← el]
theorem h89 : c_r12_inside.ok Tryz.prog GL 89 := con_ok (H := {}) (mkEnv_ok (gl := GL) (l := [(47, conSem c_r01_One), (124, conSem c_r01_All)]) (q := []) (d := []) _ tyOk (by kernel_rfl) ⟨h47.call, h124.call, trivial⟩ trivial trivial) (by kernel_rfl) (by kernel_rfl) (Eq.mp e89 k89)
def t48 : Prop :=
  ∀ (x : q6), (q159 x) -> lenB x.1 <= q175 -> lenB x.1 <= q175 /\ (∀ (y : List q218 × Bool × Unit), (Kd.wf q216 y.1 /\ wbZ y.2.1 /\ True) -> (y.1, y.2.1) = insD x.1 q262 -> ∃ (I : Int × Unit
  -> List q218 × List q218 × Unit -> Prop), ∃ (μ : Int × Unit -> List q218 × List q218 × Unit -> Nat), (x.1 = x.1 /\ y.1 = y.1 /\ I (q40, ()) ([], [], ())) /\ ∀ (y_1 : q1) (z : List q218 ×
  List q218 × Unit), (q36 y_1) -> (Kd.wf q277 z.1 /\ Kd.wf q277 z.2.1 /\ True) -> I y_1 z -> (decide (y_1.1 < (lnZ y.1)) = true -> (q40 <= y_1.1 /\ y_1.1 < (lnZ y.1)) /\ lenB (List.getD y.1
  (q411 y_1) q276).2 <= q175 /\ (∀ (y_2 : List q218 × Bool × Unit), (Kd.wf q216 y_2.1 /\ wbZ y_2.2.1 /\ True) -> (y_2.1, y_2.2.1) = insD (List.getD y.1 (q411 y_1) q276).2 q262 -> ((!y_2.2.1)
  = false -> True) /\ ((!y_2.2.1) = false -> ((!y_2.2.1) == false) = true /\ True) /\ ((!y_2.2.1) = false -> ((!y_2.2.1) == false) = true /\ True) /\ ((!y_2.2.1) = false -> ((!y_2.2.1) ==
  false) = true) /\ ((q446 y_2) = false -> True) /\ ((q446 y_2) = false -> ((q446 y_2) == false) = true /\ (q40 <= q40 /\ q40 < (lnZ y_2.1)) /\ True) /\ (q272 y_2) /\ (q272 y_2) /\ (q272 y_2)
  /\ (q272 y_2) /\ ((q446 y_2) = false -> ((q446 y_2) == false) = true) /\ ((q271 y_2) = true -> [] = guessD x.1) /\ ((q271 y_2) = false -> (q40 <= q40 /\ q40 < (lnZ y_2.1)) /\ (q40 <= q75 /\
  q75 < (lnZ y_2.1)) /\ ((q274 y_2) /\ (((((((q74 < q76 /\ (q270 z y_2) * (24 : Nat) <= q158 /\ List.length z.1 + List.length [(wrZ (q273 y_2), (q275 y_2).2)] <= q157 /\ x.1 = x.1 /\ y.1 =
  y.1 /\ I (wrZ (q249 y_1), ()) (z.1 ++ [(wrZ (q273 y_2), (q275 y_2).2)], z.2.1, ()) /\ μ (wrZ (q249 y_1), ()) (z.1 ++ [(wrZ (q273 y_2), (q275 y_2).2)], z.2.1, ()) < μ y_1 z) /\ True) /\
  True) /\ True) /\ True) /\ True) /\ ((((((q74 < q76 /\ (q270 z y_2) * (24 : Nat) <= q158 /\ List.length z.1 + List.length [(wrZ (q273 y_2), (q275 y_2).2)] <= q157 /\ x.1 = x.1 /\ y.1 = y.1
  /\ I (wrZ (q249 y_1), ()) (z.1 ++ [(wrZ (q273 y_2), (q275 y_2).2)], z.2.1, ()) /\ μ (wrZ (q249 y_1), ()) (z.1 ++ [(wrZ (q273 y_2), (q275 y_2).2)], z.2.1, ()) < μ y_1 z) /\ True) /\ True) /\
  True) /\ True) /\ (((((q74 < q76 /\ (q270 z y_2) * (24 : Nat) <= q158 /\ List.length z.1 + List.length [(wrZ (q273 y_2), (q275 y_2).2)] <= q157 /\ x.1 = x.1 /\ y.1 = y.1 /\ I (wrZ (q249
  y_1), ()) (z.1 ++ [(wrZ (q273 y_2), (q275 y_2).2)], z.2.1, ()) /\ μ (wrZ (q249 y_1), ()) (z.1 ++ [(wrZ (q273 y_2), (q275 y_2).2)], z.2.1, ()) < μ y_1 z) /\ True) /\ True) /\ True) /\ True)
  /\ True) /\ True) /\ (((((((q74 < q76 /\ (q270 z y_2) * (24 : Nat) <= q158 /\ List.length z.1 + List.length [(wrZ (q273 y_2), (q275 y_2).2)] <= q157 /\ x.1 = x.1 /\ y.1 = y.1 /\ I (wrZ
  (q249 y_1), ()) (z.1 ++ [(wrZ (q273 y_2), (q275 y_2).2)], z.2.1, ()) /\ μ (wrZ (q249 y_1), ()) (z.1 ++ [(wrZ (q273 y_2), (q275 y_2).2)], z.2.1, ()) < μ y_1 z) /\ True) /\ True) /\ True) /\
  True) /\ (((((q74 < q76 /\ (q270 z y_2) * (24 : Nat) <= q158 /\ List.length z.1 + List.length [(wrZ (q273 y_2), (q275 y_2).2)] <= q157 /\ x.1 = x.1 /\ y.1 = y.1 /\ I (wrZ (q249 y_1), ())
  (z.1 ++ [(wrZ (q273 y_2), (q275 y_2).2)], z.2.1, ()) /\ μ (wrZ (q249 y_1), ()) (z.1 ++ [(wrZ (q273 y_2), (q275 y_2).2)], z.2.1, ()) < μ y_1 z) /\ True) /\ True) /\ True) /\ True) /\ True)
  /\ ((((((q74 < q76 /\ (q270 z y_2) * (24 : Nat) <= q158 /\ List.length z.1 + List.length [(wrZ (q273 y_2), (q275 y_2).2)] <= q157 /\ x.1 = x.1 /\ y.1 = y.1 /\ I (wrZ (q249 y_1), ()) (z.1 ++
  [(wrZ (q273 y_2), (q275 y_2).2)], z.2.1, ()) /\ μ (wrZ (q249 y_1), ()) (z.1 ++ [(wrZ (q273 y_2), (q275 y_2).2)], z.2.1, ()) < μ y_1 z) /\ True) /\ True) /\ True) /\ True) /\ True) /\ True)
  /\ True) /\ (((q274 y_2) /\ ((((((q74 < q76 /\ (q270 z y_2) * (24 : Nat) <= q158 /\ List.length z.1 + List.length [(wrZ (q273 y_2), (q275 y_2).2)] <= q157 /\ x.1 = x.1 /\ y.1 = y.1 /\ I
  (wrZ (q249 y_1), ()) (z.1 ++ [(wrZ (q273 y_2), (q275 y_2).2)], z.2.1, ()) /\ μ (wrZ (q249 y_1), ()) (z.1 ++ [(wrZ (q273 y_2), (q275 y_2).2)], z.2.1, ()) < μ y_1 z) /\ True) /\ True) /\
  True) /\ True) /\ (((((q74 < q76 /\ (q270 z y_2) * (24 : Nat) <= q158 /\ List.length z.1 + List.length [(wrZ (q273 y_2), (q275 y_2).2)] <= q157 /\ x.1 = x.1 /\ y.1 = y.1 /\ I (wrZ (q249
  y_1), ()) (z.1 ++ [(wrZ (q273 y_2), (q275 y_2).2)], z.2.1, ()) /\ μ (wrZ (q249 y_1), ()) (z.1 ++ [(wrZ (q273 y_2), (q275 y_2).2)], z.2.1, ()) < μ y_1 z) /\ True) /\ True) /\ True) /\ True)
  /\ True) /\ ((((((q74 < q76 /\ (q270 z y_2) * (24 : Nat) <= q158 /\ List.length z.1 + List.length [(wrZ (q273 y_2), (q275 y_2).2)] <= q157 /\ x.1 = x.1 /\ y.1 = y.1 /\ I (wrZ (q249 y_1),
  ()) (z.1 ++ [(wrZ (q273 y_2), (q275 y_2).2)], z.2.1, ()) /\ μ (wrZ (q249 y_1), ()) (z.1 ++ [(wrZ (q273 y_2), (q275 y_2).2)], z.2.1, ()) < μ y_1 z) /\ True) /\ True) /\ True) /\ True) /\
  True) /\ True) /\ (((q274 y_2) /\ (((((q74 < q76 /\ (q270 z y_2) * (24 : Nat) <= q158 /\ List.length z.1 + List.length [(wrZ (q273 y_2), (q275 y_2).2)] <= q157 /\ x.1 = x.1 /\ y.1 = y.1 /\
  I (wrZ (q249 y_1), ()) (z.1 ++ [(wrZ (q273 y_2), (q275 y_2).2)], z.2.1, ()) /\ μ (wrZ (q249 y_1), ()) (z.1 ++ [(wrZ (q273 y_2), (q275 y_2).2)], z.2.1, ()) < μ y_1 z) /\ True) /\ True) /\
  True) /\ True) /\ True) /\ True) /\ True) /\ True)) /\ True) /\ (decide (y_1.1 < (lnZ y.1)) = false -> z.1 = guessD x.1)) /\ True
theorem e48 : t48 = Con.vc c_r12_guess GL (mkEnv ty [(89, conSem c_r12_inside)] [] [] [0, 2, 3, 5, 6, 7, 8, 17, 43]) {} Tryz.f48.ntmps Tryz.f48.results.toList (bodyOf Tryz.f48) := by kernel_rfl
theorem k48 : t48 := by
  unfold t48
  delta q6 q159 q175 q218 q216 wbZ q262 q40 q1 q36 q277 lnZ q411 q276 q446 q272 q271 q75 q274 q74 q76 q270 q158 wrZ q273 q275 q157 q249 wyZ q438 wiZ q484 q445 q501 q421 q477 q527 q451 q458 q541 q540 q542 q522 q580
  rintro ⟨b, _⟩ hx hp
  have hp : b.length ≤ 100000000 := hp
  try dsimp +instances only [dft_int, dft_sl, dft_str]
  simp only [true_and, and_true, eq_self_iff_true, implies_true, reduceCtorEq, false_implies, true_implies, decide_eq_true_eq, decide_eq_false_iff_not, beq_self_eq_true, Bool.not_eq_true', ne_eq, Decidable.not_not, List.nil_append, List.length_singleton, List.length_cons, List.length_nil, Nat.zero_add, Nat.add_zero, Nat.mul_one, and_self, beq_iff_eq, Bool.not_true, Bool.not_false, Bool.not_eq_false', Bool.cond_false_right, Bool.and_eq_true, imp_self, Bool.not_eq_true, Bool.cond_true_left, Bool.or_eq_true]
  simp only [edft_eq]
  obtain ⟨hil, hie⟩ := insD_len b 48
  refine ⟨hp, ?_⟩
  rintro ⟨l, ok, _⟩ hwl h
  simp only at h ⊢
  have hl : (insD b 48).1 = l := by rw [← h]
  rw [hl] at hil hie
  refine ⟨fun y z => 0 ≤ y.1 ∧ y.1 ≤ l.length ∧ (z.1 : List AttrT).length ≤ y.1 ∧ gAll l = (gAll (l.drop y.1.toNat)).map (z.1 ++ ·), fun y _ => ((l.length : Int) - y.1).toNat, ⟨Int.le_refl 0, by simp only; omega, by simp, by simp⟩, ?_⟩
  rintro ⟨i, _⟩ ⟨acc, v, _⟩ _ _ ⟨i0, i1, hal, hg⟩
  simp only at i0 i1 hal hg ⊢
  refine ⟨fun hlt => ?_, fun hge => ?_⟩
  . have hmem := mem_getD edft l i.toNat (by omega)
    rw [drop_consA edft l i.toNat (by omega)] at hg
    generalize l.getD i.toNat edft = x at hg hmem
    have hxl := hie x hmem
    refine ⟨⟨i0, hlt⟩, by rw [lenB]; omega, ?_⟩
    rintro ⟨two, ok2, _⟩ hw2 h2
    simp only at h2 ⊢
    have q1 : (insD x.2 48).1 = two := by rw [← h2]
    have q2 : (insD x.2 48).2 = ok2 := by rw [← h2]
    refine ⟨fun g => ⟨g, by decide, ?_⟩, fun g => ?_, fun g => ?_⟩
    . simp only [Bool.or_eq_false_iff, decide_eq_false_iff_not, Decidable.not_not] at g
      omega
    . have hn : gOne x = none := by
        rw [gOne, q1, q2, if_neg]
        rintro ⟨g1, g2, g3⟩
        rcases g with (g | g) | g
        . rw [g1] at g; cases g
        . omega
        . omega
      rw [gAll_bad hn] at hg
      rw [guessD, hl, hg]
      rfl
    . rw [Bool.or_eq_false_iff, Bool.or_eq_false_iff, Bool.not_eq_false'] at g
      obtain ⟨⟨g1, g2⟩, g3⟩ := g
      have g2 := dec_not g2
      have g3 := dec_not g3
      have hs : gOne x = some ((two.getD 0 edft).2.getD 2 0, (two.getD 1 edft).2) := by
        rw [gOne, q1, q2, if_pos ⟨g1, by omega, by omega⟩]
      rw [gAll_step hs] at hg
      have hw0 : Kd.wf BY (two.getD 0 edft).2 := by
        have := hw2.1.2 _ (mem_getD edft two 0 (by omega))
        exact this.2
      have hb2 := bys_get (sl_bys hw0) 2
      rw [wrapK (i + 1) (by omega) (by omega), wrapK ((two.getD 0 edft).2.getD 2 0) (by omega) (by omega)]
      refine ⟨⟨by decide, by omega⟩, ⟨by decide, by omega⟩, ⟨by decide, by omega⟩, by decide, by omega, by omega, ⟨by omega, by omega, by rw [List.length_append, List.length_singleton]; omega, ?_⟩, by omega⟩
      rw [hg, show i.toNat + 1 = (i + 1).toNat by omega]
      cases gAll (l.drop (i + 1).toNat) <;> simp
  . rw [List.drop_of_length_le (by omega)] at hg
    rw [guessD, hl, hg]
    simp [gAll]
theorem h48 : c_r12_guess.ok Tryz.prog GL 48 := con_ok (H := {}) (mkEnv_ok (gl := GL) (l := [(89, conSem c_r12_inside)]) (q := []) (d := []) _ tyOk (by kernel_rfl) ⟨h89.call, trivial⟩ trivial trivial) (by kernel_rfl) (by kernel_rfl) (Eq.mp e48 k48)
def t17 : Prop :=
  ∀ (x : q6), (q159 x) -> lenB x.1 <= q175 -> lenB x.1 <= q88 /\ (∀ (y : q24), (q263 y) -> (y.1, y.2.1) = oneD x.1 -> q76 <= q72 /\ (decide (q269 y) = true -> decQ x.1 [] y.2.1 = true) /\
  (decide (q269 y) = false -> lenB x.1 <= q175 /\ (∀ (y : q16), (q150 y) -> y.1 = guessD x.1 -> (List.length y.1 <= q88 /\ ∀ (a : q17), a ∈ y.1 -> List.length a.2 <= q175) /\ (∀ (y_1 : q0),
  (q244 y_1) -> (y_1.1, y_1.2.1) = EncN y.1 -> (q282 y_1) /\ (q279 y_1) /\ (q282 y_1) /\ (q279 y_1) /\ (q278 y_1) /\ (q280 y_1) /\ ((q281 y_1 x) = true -> decQ x.1 [] (120 : Int) = true) /\
  ((q281 y_1 x) = false -> decQ x.1 y.1 q40 = true)) /\ True) /\ True)) /\ True
theorem e17 : t17 = Con.vc c_r12_Decode GL (mkEnv ty [(47, conSem c_r01_One), (48, conSem c_r12_guess), (36, conSem c_r12_Encode)] [] [] [0, 2, 3, 5, 6, 7, 14, 31]) {} Tryz.f17.ntmps Tryz.f17.results.toList (bodyOf Tryz.f17) := by kernel_rfl
theorem k17 : t17 := by
  unfold t17
  delta q6 q159 q175 q88 q24 q263 q76 q72 q269 q16 q150 q17 q0 q244 q282 q279 q278 q280 q281 q40 wyZ q438 wiZ q421 q484 q473 q541 q529
  rintro ⟨b, _⟩ hx hp
  have hp : b.length ≤ 100000000 := hp
  try dsimp +instances only [dft_int, dft_sl, dft_str]
  simp only [true_and, and_true, eq_self_iff_true, implies_true, reduceCtorEq, false_implies, true_implies, decide_eq_true_eq, decide_eq_false_iff_not, beq_self_eq_true, Bool.not_eq_true', ne_eq, Decidable.not_not, List.nil_append, List.length_singleton, List.length_cons, List.length_nil, Nat.zero_add, Nat.add_zero, Nat.mul_one, and_self, beq_iff_eq, Bool.not_true, Bool.not_false, Bool.not_eq_false', Bool.cond_false_right, Bool.and_eq_true, imp_self, Bool.not_eq_true, Bool.cond_true_left, Bool.or_eq_true]
  obtain ⟨hgl, hge⟩ := guess_len b
  refine ⟨by rw [lenB]; omega, ?_⟩
  rintro ⟨x, e, _⟩ _ h
  simp only at h ⊢
  have o3 : (oneD b).2 = e := by rw [← h]
  refine ⟨by decide, fun h2 => decQ_iff.2 (.inl ⟨by rw [o3]; exact h2, o3.symm, rfl⟩), fun h2 => ⟨hp, ?_⟩⟩
  subst h2
  rintro ⟨n, _⟩ _ en
  simp only at en ⊢
  subst en
  refine ⟨⟨by omega, fun a ha => by have := hge a ha; omega⟩, ?_⟩
  rintro ⟨c, e2, _⟩ _ ec
  simp only at ec ⊢
  have hg := guess_dec o3
  rw [← ec] at hg
  refine ⟨fun h => ?_, fun h => ?_⟩
  . rwa [if_neg (fun h2 => by obtain ⟨rfl, rfl⟩ := Prod.mk.inj h2; exact h.elim (fun h => h rfl) (fun h => h rfl)), if_neg (fun h2 => by obtain ⟨rfl, rfl⟩ := Prod.mk.inj h2; exact h.elim (fun h => h rfl) (fun h => h rfl))] at hg
  . simp only [Bool.or_eq_false_iff, decide_eq_false_iff_not, Decidable.not_not] at h
    obtain ⟨rfl, rfl⟩ := h
    rwa [if_pos rfl, if_pos rfl] at hg
theorem h17 : c_r12_Decode.ok Tryz.prog GL 17 := con_ok (H := {}) (mkEnv_ok (gl := GL) (l := [(47, conSem c_r01_One), (48, conSem c_r12_guess), (36, conSem c_r12_Encode)]) (q := []) (d := []) _ tyOk (by kernel_rfl) ⟨h47.call, h48.call, h36.call, trivial⟩ trivial trivial) (by kernel_rfl) (by kernel_rfl) (Eq.mp e17 k17)
end Go.Proofs.YtlpbhgcndebkcaaGreatDoor
end
section
namespace Go.Proofs.YtlpbhgcndebkcaaGreatDoor
open Go Go.Vc Go.Pl Go.Proofs
def c_name_attr : Con := { args := [.dat BY], res := [.dat AT, .dat .bool], pre := fun x => lenB x.1 ≤ 100000000, post := fun x y => attrQ x.1 y.1 y.2.1 = true }
def c_name_Decode : Con := { args := [.dat BY], res := [.own 75 AT, .dat I64], pre := fun x => lenB x.1 ≤ 100000000, post := fun x y => decQ x.1 y.1 y.2.1 = true }
end Go.Proofs.YtlpbhgcndebkcaaGreatDoor
end
section
namespace Go.Proofs.YtlpbhgcndebkcaaGreatDoor
open Go Go.Vc Go.Pl Go.Proofs
set_option linter.unusedVariables false
set_option linter.unusedSimpArgs false
set_option maxRecDepth 20000
abbrev q449 (p0 : q7) := (decide (p0.2.1 = q574) = true -> (decide (p0.2.1 = q574) == true) = true /\ (decide (p0.2.1 = q574) == true) = true /\ True)
abbrev q450 (p0 : q7) := (decide (p0.2.1 = q574) = true -> (decide (p0.2.1 = q574) == true) = true)
abbrev q502 (p0 : q7) (p1 : (Int × List Int × Unit) × List (Int × List Int) × List Int × (Int × List Int × Unit) × Unit) := (bif decide (p0.2.1 = q574) then decide (p0.1 = (List.getD p1.2.1
  q527 q542).1) else false)
abbrev q283 (p0 : q7) (p1 : (Int × List Int × Unit) × List (Int × List Int) × List Int × (Int × List Int × Unit) × Unit) (p2 : q6) := ((q449 p0) /\ ((q450 p0) /\ (((q502 p0 p1) = true ->
  True) /\ (((q502 p0 p1) = true -> ((q502 p0 p1) == true) = true /\ True /\ (∀ (y : q4), (wbZ y.1 /\ True) -> y.1 = mayA (p1.2.2.2.1.1, p1.2.2.2.1.2.1) -> (attrQ p2.1 (p1.2.2.2.1.1,
  p1.2.2.2.1.2.1) y.1 = true /\ True) /\ (attrQ p2.1 (p1.2.2.2.1.1, p1.2.2.2.1.2.1) y.1 = true /\ True) /\ True) /\ True) /\ ((q502 p0 p1) = !true -> (attrQ p2.1 (p1.2.2.2.1.1,
  p1.2.2.2.1.2.1) false = true /\ True) /\ (attrQ p2.1 (p1.2.2.2.1.1, p1.2.2.2.1.2.1) false = true /\ True) /\ True)) /\ True) /\ True) /\ True)
abbrev q503 (p0 : q0) (p1 : q5) (p2 : q4) (p3 : q6) (p4 : Unit -> (Int × List Int × Unit) × List (Int × List Int) × List Int × (Int × List Int × Unit) × Unit -> Prop) (p5 : (Int × List Int
  × Unit) × List (Int × List Int) × List Int × Unit) := ((p0.2.1 = p0.2.1 /\ Value.bool false = Value.bool false /\ p1.2.1 = p1.2.1 /\ p1.1 = p1.1 /\ p2.1 = p2.1 /\ p3.1 = p3.1 /\ p4 ()
  ((p5.1.1, p5.1.2.1, ()), p5.2.1, p5.2.2.1, (List.getD p5.2.2.1 (3 : Nat) (Kd.dft q541), (List.getD p5.2.1 q527 q542).2, ()), ())) /\ True)
abbrev q284 (p0 : q0) (p1 : q5) (p2 : q4) (p3 : q6) (p4 : Unit -> (Int × List Int × Unit) × List (Int × List Int) × List Int × (Int × List Int × Unit) × Unit -> Prop) (p5 : (Int × List Int
  × Unit) × List (Int × List Int) × List Int × Unit) := (((((2 : Nat) <= (65536 : Nat) /\ (p0.2.1 = p0.2.1 /\ Value.bool false = Value.bool false /\ p1.2.1 = p1.2.1 /\ p1.1 = p1.1 /\ p2.1 =
  p2.1 /\ p3.1 = p3.1 /\ p4 () ((p5.1.1, p5.1.2.1, ()), p5.2.1, p5.2.2.1, (List.getD p5.2.2.1 (3 : Nat) (Kd.dft q541), (List.getD p5.2.1 q527 q542).2, ()), ())) /\ True) /\ True) /\ ((2 :
  Nat) <= (65536 : Nat) /\ (q503 p0 p1 p2 p3 p4 p5) /\ True) /\ True) /\ ((2 : Nat) <= (65536 : Nat) /\ ((q503 p0 p1 p2 p3 p4 p5) /\ True) /\ True) /\ True)
abbrev q285 (p0 : q0) (p1 : q5) (p2 : q4) (p3 : q6) (p4 : Unit -> (Int × List Int × Unit) × List (Int × List Int) × List Int × (Int × List Int × Unit) × Unit -> Prop) (p5 : (Int × List Int
  × Unit) × List (Int × List Int) × List Int × Unit) := (((q503 p0 p1 p2 p3 p4 p5) /\ True) /\ True)
abbrev q504 (p0 : q5) (p1 : q25) := (bif bif !p0.2.1 then true else decide (p1.2.2.1 ≠ q529) then true else decide ((lnZ p1.1) ≠ (2 : Int)))
abbrev q286 (p0 : q5) (p1 : q25) := ((q504 p0 p1) = false -> ((q504 p0 p1) == false) = true /\ True)
abbrev q454 (p0 : q25) := (p0.2.2.1 ≠ q529)
abbrev q287 (p0 : q5) (p1 : q25) := (bif bif bif !p0.2.1 then true else decide (q454 p1) then true else decide ((lnZ p1.1) ≠ q445) then true else decide ((List.getD p1.1 q437 q451).1 ≠ (6 :
  Int)))
abbrev q452 (p0 : q5) (p1 : q25) := (bif !p0.2.1 then true else decide (p1.2.2.1 ≠ q529))
abbrev q288 (p0 : q5) (p1 : q25) := ((q452 p0 p1) = false -> ((q452 p0 p1) == false) = true /\ True)
abbrev q289 (p0 : q5) (p1 : q25) := ((q504 p0 p1) == false)
abbrev q290 (p0 : q5) (p1 : q25) := (bif bif !p0.2.1 then true else decide (q454 p1) then true else decide ((lnZ p1.1) ≠ q445))
abbrev q291 (p0 : q7) := (decide (p0.2.1 = q574) = true -> (decide (p0.2.1 = q574) == true) = true /\ True)
abbrev q292 (p0 : q0) := (bif decide (q473 p0) then true else decide ((lnZ p0.1) ≠ (4 : Int)))
abbrev q293 := (Int × List Int × Unit)
abbrev q453 (p0 : q25) (p1 : q24) := (bif decide (p0.2.2.1 ≠ q529) then true else decide (p1.1.1 ≠ (48 : Int)))
abbrev q294 (p0 : q25) (p1 : q24) := ((q453 p0 p1) = false -> ((q453 p0 p1) == false) = true /\ True)
abbrev q295 (p0 : q25) (p1 : q24) := (bif bif decide (q454 p0) then true else decide (p1.1.1 ≠ (48 : Int)) then true else decide (q423 < (lnZ p0.1)))
abbrev q296 (p0 : (Int × List Int × Unit) × List (Int × List Int) × List (Int × List Int) × List (Int × List Int) × Unit) (p1 : q7) := (List.getD p0.2.1 (Int.toNat p1.1) q451)
abbrev q297 := (Kd.pair q541 Kd.str)
abbrev q576 (p0 : q7) (p1 : q293 × List q218 × List Int × q293 × Unit) := (p0.1 = (List.getD p1.2.1 (1 : Nat) (Kd.dft q580)).1)
abbrev q569 (p0 : q7) (p1 : q293 × List q218 × List Int × q293 × Unit) := (bif decide (p0.2.1 = q574) then decide (q576 p0 p1) else false)
abbrev q531 (p0 : q7) (p1 : q293 × List q218 × List Int × q293 × Unit) := ((q569 p0 p1) = true -> True)
abbrev q560 (p0 : q7) (p1 : q293 × List q218 × List Int × q293 × Unit) := ((bif decide (p0.2.1 = q574) then decide (q576 p0 p1) else false) == true)
abbrev q562 (p0 : q6) (p1 : q293 × List q218 × List Int × q293 × Unit) (p2 : q4) := (attrQ p0.1 (p1.2.2.2.1.1, p1.2.2.2.1.2.1) p2.1 = true /\ True)
abbrev q561 (p0 : q6) (p1 : q293 × List q218 × List Int × q293 × Unit) := (attrQ p0.1 (p1.2.2.2.1.1, p1.2.2.2.1.2.1) false = true /\ True)
abbrev q530 (p0 : q7) (p1 : q293 × List q218 × List Int × q293 × Unit) (p2 : q6) := (((q569 p0 p1) = true -> (q560 p0 p1) = true /\ True /\ (∀ (y : q4), (wbZ y.1 /\ True) -> y.1 = mayA
  (p1.2.2.2.1.1, p1.2.2.2.1.2.1) -> (q562 p2 p1 y) /\ (q562 p2 p1 y) /\ True) /\ True) /\ ((q569 p0 p1) = !true -> (q561 p2 p1) /\ (q561 p2 p1) /\ True))
abbrev q447 (p0 : q7) (p1 : q293 × List q218 × List Int × q293 × Unit) (p2 : q6) := ((q531 p0 p1) /\ (q530 p0 p1 p2) /\ True)
abbrev q448 (p0 : q7) (p1 : q293 × List q218 × List Int × q293 × Unit) := (bif decide (p0.2.1 = q574) then decide (q576 p0 p1) else false)
def t42 : Prop :=
  ∀ (x : q6), (q159 x) -> lenB x.1 <= q175 -> q76 <= q72 /\ lenB x.1 <= q175 /\ (∀ (y : q5), (wyZ y.1 /\ wbZ y.2.1 /\ True) -> y.1 = (oneD x.1).1.2 /\ y.2.1 = (decide ((oneD x.1).2 = q40) &&
  decide ((oneD x.1).1.1 = q262)) -> lenB y.1 <= q88 /\ (∀ (y_1 : q25), (q268 y_1) -> (y_1.1, y_1.2.1, y_1.2.2.1) = allD y.1 -> ((!y.2.1) = false -> True) /\ ((!y.2.1) = false -> ((!y.2.1) ==
  false) = true /\ True) /\ ((!y.2.1) = false -> ((!y.2.1) == false) = true) /\ ((q452 y y_1) = false -> True) /\ (q288 y y_1) /\ (q288 y y_1) /\ ((q452 y y_1) = false -> ((q452 y y_1) ==
  false) = true) /\ ((q290 y y_1) = false -> True) /\ ((q290 y y_1) = false -> (q289 y y_1) = true /\ (q40 <= q40 /\ q40 < (lnZ y_1.1)) /\ True) /\ (q286 y y_1) /\ (q286 y y_1) /\ (q286 y
  y_1) /\ ((q290 y y_1) = false -> (q289 y y_1) = true) /\ ((q287 y y_1) = true -> attrQ x.1 (q40, bs { data := #[] }) false = true) /\ ((q287 y y_1) = false -> (q40 <= q40 /\ q40 < (lnZ
  y_1.1)) /\ True /\ (∀ (y_2 : q0), (Kd.wf q230 y_2.1 /\ wiZ y_2.2.1 /\ True) -> (y_2.1, y_2.2.1) = DecD (List.getD y_1.1 q437 q451).2 -> ∃ (J : Bool × Unit -> q293 × List q218 × List Int ×
  Unit -> Prop), ((q282 y_2) /\ (q279 y_2) /\ (q279 y_2) /\ (q280 y_2) /\ ((q292 y_2) = false -> True) /\ ((q292 y_2) = false -> ((q292 y_2) == false) = true /\ True /\ (∀ (y_3 : q4), (q49
  y_3) -> y_3.1 = decide (List.take (List.length [q77, (5 : Int), (4 : Int)]) y_2.1 = [q77, (5 : Int), (4 : Int)]) -> ((!y_3.1) = true -> attrQ x.1 (q40, bs { data := #[] }) false = true) /\
  ((!y_3.1) = false -> y_2.2.1 = y_2.2.1 /\ Value.bool false = Value.bool false /\ y.2.1 = y.2.1 /\ y.1 = y.1 /\ x.1 = x.1 /\ J (false, ()) ((q40, bs { data := #[] }, ()), y_1.1, y_2.1, ())))
  /\ True) /\ ((q292 y_2) = !false -> attrQ x.1 (q40, bs { data := #[] }) false = true)) /\ ∀ (u : q4) (z : q293 × List q218 × List Int × Unit), (q49 u) -> (wiZ z.1.1 /\ wsZ z.1.2.1 /\ True)
  /\ (Kd.wf q216 z.2.1 /\ Kd.wf q230 z.2.2.1 /\ True) -> J u z -> ∃ (J : Unit -> q293 × List q218 × List Int × q293 × Unit -> Prop), ((q40 <= (3 : Int) /\ (3 : Int) < (lnZ z.2.2.1)) /\ (q40
  <= q75 /\ q75 < (lnZ z.2.1)) /\ ((q284 y_2 y u x J z) /\ (q76 <= q72 /\ (q285 y_2 y u x J z) /\ True) /\ True) /\ ((q284 y_2 y u x J z) /\ (q284 y_2 y u x J z) /\ (q76 <= q72 /\ (q285 y_2 y
  u x J z) /\ (q285 y_2 y u x J z) /\ True) /\ True) /\ (q76 <= q72 /\ ((q285 y_2 y u x J z) /\ True) /\ ((q285 y_2 y u x J z) /\ (q285 y_2 y u x J z) /\ True) /\ True) /\ True) /\ ∀ (u :
  Unit) (z : q293 × List q218 × List Int × q293 × Unit), True -> (wiZ z.1.1 /\ wsZ z.1.2.1 /\ True) /\ Kd.wf q216 z.2.1 /\ Kd.wf q230 z.2.2.1 /\ (wiZ z.2.2.2.1.1 /\ wsZ z.2.2.2.1.2.1 /\ True)
  /\ True -> J u z -> True /\ (∀ (y : q7), (q99 y) -> y.1 = (kindD z.2.2.2.1.2.1).1 /\ y.2.1 = (kindD z.2.2.2.1.2.1).2 -> (decide (y.2.1 = q574) = true -> (decide (y.2.1 = q574) == true) =
  true /\ (q40 <= q75 /\ q75 < (lnZ z.2.1)) /\ True) /\ (q291 y) /\ (((q291 y) /\ (q283 y z x) /\ True) /\ True) /\ ((q291 y) /\ ((q283 y z x) /\ True) /\ ((q449 y) /\ (((q450 y) /\ (q447 y z
  x) /\ True) /\ True) /\ ((q450 y) /\ ((q447 y z x) /\ True) /\ ((q531 y z) /\ ((q530 y z x) /\ True) /\ (((q448 y z) = true -> (q560 y z) = true /\ True /\ (∀ (y : q4), (q49 y) -> y.1 =
  mayA (z.2.2.2.1.1, z.2.2.2.1.2.1) -> ((q562 x z y) /\ (q562 x z y) /\ True) /\ ((q562 x z y) /\ True) /\ True) /\ True) /\ ((q448 y z) = !true -> ((q561 x z) /\ (q561 x z) /\ True) /\
  ((q561 x z) /\ True) /\ True)) /\ True) /\ True) /\ True) /\ True) /\ True) /\ True) /\ True)) /\ True) /\ True
theorem e42 : t42 = Con.vc c_name_attr GL (mkEnvO ty [(81, conSem c_name_only), (41, conSem c_der_All), (82, conSem c_oid_Decode), (83, conSem c_oid_Begins), (71, conSem c_text_Kind), (70, conSem c_name_may)] [] [] [0, 2, 3, 4, 5, 6, 8, 9, 10, 11, 40, 62] [1000000]) {joins := [8,9], news := [(9,10,75)]} Tryz.f42.ntmps Tryz.f42.results.toList (bodyOf Tryz.f42) := by kernel_rfl
theorem k42 : t42 := by
  unfold t42
  delta q6 q159 q175 q76 q72 q5 wyZ wbZ q40 q262 q88 q25 q268 q452 q288 q290 q289 lnZ q286 q287 q0 q230 wiZ q437 q451 q293 q218 q282 q279 q280 q292 q4 q49 q77 wsZ q216 q75 q284 q285 q7 q99 q574 q291 q283 q449 q450 q447 q531 q530 q448 q560 q562 q561 q438 q529 q454 q445 q504 q541 q580 q473 q527 q542 q503 q502 q569 q576
  rintro ⟨b, _⟩ hx hp
  have hp : b.length ≤ 100000000 := hp
  have hb : Bys b := sl_bys hx.1
  try dsimp +instances only [dft_int, dft_sl, dft_str]
  simp only [true_and, and_true, eq_self_iff_true, implies_true, reduceCtorEq, false_implies, true_implies, decide_eq_true_eq, decide_eq_false_iff_not, beq_self_eq_true, Bool.not_eq_true', ne_eq, Decidable.not_not, List.nil_append, List.length_singleton, List.length_cons, List.length_nil, Nat.zero_add, Nat.add_zero, Nat.mul_one, and_self, beq_iff_eq, Bool.not_true, Bool.not_false, Bool.not_eq_false', Bool.cond_false_right, Bool.and_eq_true, imp_self, Bool.not_eq_true, Bool.cond_true_left, Bool.or_eq_true]
  simp only [edft_eq]
  rw [bs_nil]
  have hol := oneD_len b
  refine ⟨by decide, hp, ?_⟩
  rintro ⟨c, ok, _⟩ _ ⟨ec, eok⟩
  simp only at ec eok ⊢
  subst ec
  refine ⟨by rw [lenB]; omega, ?_⟩
  rintro ⟨l, n, e, _⟩ _ el
  simp only at el ⊢
  have hread : ∀ m, mayA m = true → attrB m = b → ok = true ∧ l = [(6, [85, 4, m.1]), elK m] ∧ e = 0 ∧ DecD [85, 4, m.1] = ([2, 5, 4, m.1], 0) := fun m hm he => by
    obtain ⟨r1, r2, r3⟩ := attr_read hm he
    rw [r2] at el
    simp only [Prod.mk.injEq] at el
    refine ⟨?_, el.1, el.2.2, r3⟩
    rw [eok, r1]
    rfl
  refine ⟨fun h => ⟨h, by decide, ?_⟩, fun h => attrQ_bad fun m hm he => ?_, fun h => ?_⟩
  . simp only [Bool.or_eq_false_iff, decide_eq_false_iff_not, Decidable.not_not] at h
    omega
  . obtain ⟨r1, r2, r3, _⟩ := hread m hm he
    subst r2
    rcases h with ((h | h) | h) | h
    . rw [r1] at h; cases h
    . exact h r3
    . exact h rfl
    . exact h rfl
  have hh := h
  rw [Bool.or_eq_false_iff, Bool.or_eq_false_iff, Bool.or_eq_false_iff, Bool.not_eq_false'] at hh
  obtain ⟨⟨⟨k1, k2⟩, k3⟩, k4⟩ := hh
  have k2 := dec_not k2
  have k3 := dec_not k3
  have k4 := dec_not k4
  have hll := two_list (l := l) (by omega)
  refine ⟨⟨by decide, by omega⟩, ?_⟩
  rintro ⟨arcs, e2, _⟩ _ ed
  simp only at ed ⊢
  have hread2 : ∀ m, mayA m = true → attrB m = b → l.getD 1 edft = elK m ∧ arcs = [2, 5, 4, m.1] ∧ e2 = 0 := fun m hm he => by
    obtain ⟨_, r2, _, r4⟩ := hread m hm he
    rw [r2] at ed ⊢
    have := ed.trans r4
    exact ⟨rfl, (Prod.mk.inj this).1, (Prod.mk.inj this).2⟩
  refine ⟨fun _ z => l = z.2.1 ∧ arcs = z.2.2.1 ∧ arcs.length = 4 ∧ arcs.take 3 = [2, 5, 4] ∧ e2 = 0, ⟨fun h => ⟨h, ?_⟩, fun h => attrQ_bad fun m hm he => ?_⟩, ?_⟩
  . rw [Bool.or_eq_false_iff] at h
    have g1 := dec_not h.1
    have g2 := dec_not h.2
    rintro ⟨q, _⟩ _ eq
    simp only at eq ⊢
    subst eq
    refine ⟨fun h => attrQ_bad fun m hm he => ?_, fun h => ⟨by trivial, by trivial, by omega, of_decide_eq_true h, g1⟩⟩
    obtain ⟨_, r3, _⟩ := hread2 m hm he
    rw [r3] at h
    exact absurd h (by simp)
  . obtain ⟨_, r3, r4⟩ := hread2 m hm he
    rcases h with h | h
    . exact h r4
    . rw [r3] at h; exact h rfl
  rintro ⟨u, _⟩ ⟨⟨z1, z2, _⟩, l', arcs', _⟩ _ _ ⟨j1, j2, j3, j4, j5⟩
  simp only at j1 j2 ⊢
  subst j1
  subst j2
  have harc := four_list (l := arcs) j3 j4
  refine ⟨fun _ z => l = z.2.1 ∧ arcs.getD 3 0 = z.2.2.2.1.1 ∧ (l.getD 1 edft).2 = z.2.2.2.1.2.1, ⟨⟨by decide, by omega⟩, ⟨by decide, by omega⟩, by decide, by trivial, by trivial, by trivial⟩, ?_⟩
  rintro _ ⟨⟨z3, z4, _⟩, l2, arcs2, ⟨k, v, _⟩, _⟩ _ ⟨q1, q2, q3⟩
  simp only at q1 q2 q3 ⊢
  subst q1
  subst q2
  subst q3
  rintro ⟨kd, ke, _⟩ _ ⟨hk1, hk2⟩
  simp only at hk1 hk2 ⊢
  refine ⟨fun h => ⟨h, by decide, by omega⟩, fun h => ⟨h, ?_⟩, fun h => attrQ_bad fun m hm he => ?_⟩
  . rintro ⟨q, _⟩ _ eq
    simp only at eq ⊢
    subst eq
    cases hq : mayA (arcs.getD 3 0, (l.getD 1 edft).2) with
    | true =>
      refine attrQ_iff.2 ⟨fun _ => ⟨hq, ?_⟩, fun h => by cases h⟩
      have ek : ok = true := k1
      rw [eok, Bool.and_eq_true, decide_eq_true_eq, decide_eq_true_eq] at ek
      refine read_attr (l := l) (arcs := arcs) hb ek.1 ek.2 (x := l.getD 0 edft) (y := l.getD 1 edft) (n := n) (by rw [← el, k2]; exact Prod.ext hll rfl) k4 ?_ rfl (by rw [← h.2, ← hk1]) hq
      simp only
      rw [← harc, ← ed, j5]
    | false =>
      refine attrQ_bad fun m hm he => ?_
      obtain ⟨r2, r3, _⟩ := hread2 m hm he
      rw [r2, r3] at hq
      have hq : mayA m = false := hq
      rw [hm] at hq
      cases hq
  . obtain ⟨r2, _, _⟩ := hread2 m hm he
    have hkm := (may_kind hm).1
    rw [r2] at hk1 hk2
    have hk2 : ke = (kindD m.2).2 := hk2
    have hk1 : kd = (kindD m.2).1 := hk1
    rw [Bool.and_eq_false_iff] at h
    rcases h with h | h
    . exact of_decide_eq_false h (hk2.trans hkm)
    . exact of_decide_eq_false h (by rw [r2]; exact hk1)
theorem h42 : c_name_attr.ok Tryz.prog GL 42 := conO_ok (H := {joins := [8,9], news := [(9,10,75)]}) (mkEnvO_ok (gl := GL) (l := [(81, conSem c_name_only), (41, conSem c_der_All), (82, conSem c_oid_Decode), (83, conSem c_oid_Begins), (71, conSem c_text_Kind), (70, conSem c_name_may)]) (q := []) (d := []) _ [1000000] tyOk (by kernel_rfl) ⟨h81.call, h41.call, h82.call, h83.call, h71.call, h70.call, trivial⟩ trivial trivial) (by kernel_rfl) (by kernel_rfl) (Eq.mp e42 k42)
def t15 : Prop :=
  ∀ (x : q6), (q159 x) -> lenB x.1 <= q175 -> lenB x.1 <= q88 /\ (∀ (y : q24), (q263 y) -> (y.1, y.2.1) = oneD x.1 -> q76 <= q72 /\ (decide (q269 y) = true -> decQ x.1 [] y.2.1 = true) /\
  (decide (q269 y) = false -> lenB y.1.2 <= q88 /\ (∀ (y_1 : q25), (q268 y_1) -> (y_1.1, y_1.2.1, y_1.2.2.1) = allD y.1.2 -> (decide (q454 y_1) = false -> True) /\ (decide (q454 y_1) = false
  -> (decide (q454 y_1) == false) = true /\ True) /\ (decide (q454 y_1) = false -> (decide (q454 y_1) == false) = true /\ True) /\ (decide (q454 y_1) = false -> (decide (q454 y_1) == false) =
  true) /\ ((q453 y_1 y) = false -> True) /\ (q294 y_1 y) /\ (q294 y_1 y) /\ ((q453 y_1 y) = false -> ((q453 y_1 y) == false) = true) /\ ((q295 y_1 y) = true -> decQ x.1 [] (120 : Int) =
  true) /\ ((q295 y_1 y) = false -> ∃ (I : Int × Int × Unit -> q293 × List q218 × List q218 × List q218 × Unit -> Prop), ∃ (μ : Int × Int × Unit -> q293 × List q218 × List q218 × List q218 ×
  Unit -> Nat), ((lnZ y_1.1) = (lnZ y_1.1) /\ Value.bool false = Value.bool false /\ y_1.2.2.1 = y_1.2.2.1 /\ Value.bool false = Value.bool false /\ y.2.1 = y.2.1 /\ x.1 = x.1 /\ I (q40, q40,
  ()) ((y.1.1, y.1.2, ()), y_1.1, [], [], ())) /\ ∀ (y_2 : q7) (z : q293 × List q218 × List q218 × List q218 × Unit), (q99 y_2) -> (wiZ z.1.1 /\ wyZ z.1.2.1 /\ True) /\ (Kd.wf q216 z.2.1 /\
  Kd.wf q277 z.2.2.1 /\ Kd.wf q277 z.2.2.2.1 /\ True) -> I y_2 z -> (decide (y_2.1 < (lnZ y_1.1)) = true -> (q40 <= y_2.1 /\ y_2.1 < (lnZ z.2.1)) /\ q76 <= q72 /\ lenB (q296 z y_2).2 <= q175
  /\ (∀ (y_3 : q218 × Bool × Unit), (Kd.wf q297 y_3.1 /\ wbZ y_3.2.1 /\ True) -> attrQ (q296 z y_2).2 y_3.1 y_3.2.1 = true -> q76 <= q72 /\ ((!y_3.2.1) = false -> True) /\ ((!y_3.2.1) = false
  -> ((!y_3.2.1) == false) = true /\ True) /\ ((!y_3.2.1) = false -> ((!y_3.2.1) == false) = true /\ True) /\ ((!y_3.2.1) = false -> ((!y_3.2.1) == false) = true) /\ ((bif !y_3.2.1 then true
  else decide ((q296 z y_2).1 ≠ (49 : Int))) = true -> decQ x.1 [] (120 : Int) = true) /\ ((bif !y_3.2.1 then true else decide ((q296 z y_2).1 ≠ (49 : Int))) = false -> q74 < q76 /\
  (List.length z.2.2.1 + List.length [(y_3.1.1, y_3.1.2)]) * (24 : Nat) <= q158 /\ List.length z.2.2.1 + List.length [(y_3.1.1, y_3.1.2)] <= q157 /\ (lnZ y_1.1) = (lnZ y_1.1) /\ Value.bool
  false = Value.bool false /\ y_1.2.2.1 = y_1.2.2.1 /\ Value.bool false = Value.bool false /\ y.2.1 = y.2.1 /\ x.1 = x.1 /\ I (wrZ (q101 y_2), y_2.2.1, ()) ((z.1.1, z.1.2.1, ()), z.2.1,
  z.2.2.1 ++ [(y_3.1.1, y_3.1.2)], z.2.2.2.1, ()) /\ μ (wrZ (q101 y_2), y_2.2.1, ()) ((z.1.1, z.1.2.1, ()), z.2.1, z.2.2.1 ++ [(y_3.1.1, y_3.1.2)], z.2.2.2.1, ()) < μ y_2 z)) /\ True) /\
  (decide (y_2.1 < (lnZ y_1.1)) = false -> decQ x.1 z.2.2.1 q40 = true))) /\ True)) /\ True
theorem e15 : t15 = Con.vc c_name_Decode GL (mkEnv ty [(40, conSem c_der_One), (41, conSem c_der_All), (42, conSem c_name_attr)] [] [] [0, 2, 3, 4, 5, 6, 8, 9, 11, 12, 13, 20, 40, 41, 42, 43, 44, 59]) {} Tryz.f15.ntmps Tryz.f15.results.toList (bodyOf Tryz.f15) := by kernel_rfl
theorem k15 : t15 := by
  unfold t15
  delta q6 q159 q175 q88 q24 q263 q76 q72 q269 q25 q268 q454 q453 q294 q295 q293 q218 lnZ q40 q7 q99 wiZ wyZ q216 q277 q296 q297 wbZ q74 q158 q157 wrZ q101 q438 q421 q529 q423 q484 q451 q541 q458 q580
  rintro ⟨b, _⟩ hx hp
  have hp : b.length ≤ 100000000 := hp
  have hb : Bys b := sl_bys hx.1
  try dsimp +instances only [dft_int, dft_sl, dft_str]
  simp only [true_and, and_true, eq_self_iff_true, implies_true, reduceCtorEq, false_implies, true_implies, decide_eq_true_eq, decide_eq_false_iff_not, beq_self_eq_true, Bool.not_eq_true', ne_eq, Decidable.not_not, List.nil_append, List.length_singleton, List.length_cons, List.length_nil, Nat.zero_add, Nat.add_zero, Nat.mul_one, and_self, beq_iff_eq, Bool.not_true, Bool.not_false, Bool.not_eq_false', Bool.cond_false_right, Bool.and_eq_true, imp_self, Bool.not_eq_true, Bool.cond_true_left, Bool.or_eq_true]
  simp only [edft_eq]
  have hol := oneD_len b
  refine ⟨by rw [lenB]; omega, ?_⟩
  rintro ⟨⟨t, c⟩, e, _⟩ _ e1
  simp only at e1 ⊢
  have o1 : (oneD b).1.1 = t := by rw [← e1]
  have o2 : (oneD b).1.2 = c := by rw [← e1]
  have o3 : (oneD b).2 = e := by rw [← e1]
  rw [o2] at hol
  refine ⟨by decide, fun h => decQ_iff.2 (.inl ⟨by rw [o3]; exact h, o3.symm, rfl⟩), fun h => ⟨by rw [lenB]; omega, ?_⟩⟩
  subst h
  rintro ⟨l, n, e2, _⟩ _ el
  simp only at el ⊢
  have hread : ∀ m, mayN m = true → encN m = b → t = 48 ∧ l = m.map (fun a => ((49 : Int), attrB a)) ∧ e2 = 0 := fun m hm he => by
    obtain ⟨r1, r2⟩ := dec_read hm he
    rw [o2, ← el] at r2
    simp only [Prod.mk.injEq] at r2
    exact ⟨by rw [← o1, r1], r2.1, r2.2.2⟩
  refine ⟨fun h => decQ_bad o3 fun m hm he => ?_, fun h => ?_⟩
  . obtain ⟨r1, r2, r3⟩ := hread m hm he
    have := (mayN_args hm).1
    have hl := congrArg List.length r2
    rw [List.length_map] at hl
    rcases h with (h | h) | h
    . exact h r3
    . exact h r1
    . omega
  simp only [Bool.or_eq_false_iff, decide_eq_false_iff_not, Decidable.not_not] at h
  obtain ⟨⟨k1, k2⟩, k3⟩ := h
  subst k1 k2
  have hel : ∀ x ∈ l, x.2.length ≤ 100000000 := fun x hx => by
    have := (allD_len c).2 x (by rw [← el]; exact hx)
    omega
  refine ⟨fun y z => z.2.1 = l ∧ 0 ≤ y.1 ∧ y.1 ≤ l.length ∧ (∀ a ∈ (z.2.2.1 : List AttrT), mayA a = true) ∧ l.take y.1.toNat = (z.2.2.1 : List AttrT).map (fun a => ((49 : Int), attrB a)), fun y _ => ((l.length : Int) - y.1).toNat, ⟨rfl, Int.le_refl 0, by simp only; omega, (fun a ha => by cases ha), rfl⟩, ?_⟩
  rintro ⟨i, q, _⟩ ⟨⟨t2, c2, _⟩, l2, acc, v, _⟩ _ _ ⟨z1, i0, i1, hA, hz⟩
  simp only at z1 i0 i1 hA hz ⊢
  subst z1
  have hal := congrArg List.length hz
  rw [List.length_take, List.length_map] at hal
  refine ⟨fun hlt => ?_, fun hge => ?_⟩
  . have hst := take_snocA edft l2 i.toNat (by omega)
    have hmem := mem_getD edft l2 i.toNat (by omega)
    have hgi : ∀ m, mayN m = true → encN m = b → ∃ a, mayA a = true ∧ l2.getD i.toNat edft = (49, attrB a) := fun m hm he => by
      obtain ⟨_, r2, _⟩ := hread m hm he
      rw [r2] at hmem
      obtain ⟨a, ha, e⟩ := List.mem_map.1 hmem
      exact ⟨a, (mayN_args hm).2 a ha, by rw [r2]; exact e.symm⟩
    refine ⟨⟨i0, hlt⟩, by decide, by rw [lenB]; exact hel _ hmem, ?_⟩
    rintro ⟨⟨k, v2⟩, ok, _⟩ _ hq
    simp only at hq ⊢
    have hq2 := attrQ_iff.1 hq
    refine ⟨by decide, fun h => decQ_bad o3 fun m hm he => ?_, fun h => ?_⟩
    . obtain ⟨a, ha, ex⟩ := hgi m hm he
      rcases h with h | h
      . exact hq2.2 h a ha (by rw [ex])
      . exact h (by rw [ex])
    . rw [Bool.or_eq_false_iff, Bool.not_eq_false'] at h
      obtain ⟨g1, g2⟩ := hq2.1 h.1
      have h2 := dec_not h.2
      rw [wrapK (i + 1) (by omega) (by omega)]
      refine ⟨by decide, by omega, by omega, ⟨by trivial, by omega, by omega, fun a ha => ?_, ?_⟩, by omega⟩
      . rcases List.mem_append.1 ha with ha | ha
        . exact hA a ha
        . rw [List.mem_singleton.1 ha]; exact g1
      . rw [show (i + 1).toNat = i.toNat + 1 by omega, hst, hz, List.map_append, List.map_singleton, g2, ← h2]
  . rw [List.take_of_length_le (by omega)] at hz
    refine decQ_iff.2 (.inr ⟨o3, .inl ⟨rfl, mayN_of (by omega) hA, enc_sets hb o3 o1 (n := n) ?_⟩⟩)
    rw [o2, ← el, hz]
theorem h15 : c_name_Decode.ok Tryz.prog GL 15 := con_ok (H := {}) (mkEnv_ok (gl := GL) (l := [(40, conSem c_der_One), (41, conSem c_der_All), (42, conSem c_name_attr)]) (q := []) (d := []) _ tyOk (by kernel_rfl) ⟨h40.call, h41.call, h42.call, trivial⟩ trivial trivial) (by kernel_rfl) (by kernel_rfl) (Eq.mp e15 k15)
end Go.Proofs.YtlpbhgcndebkcaaGreatDoor
end
section
namespace Go.Proofs.YtlpbhgcndebkcaaGreatDoor
open Go Go.Vc Go.Pl Go.Proofs
end Go.Proofs.YtlpbhgcndebkcaaGreatDoor
end
section
namespace Go.Proofs.YtlpbhgcndebkcaaGreatDoor
open Go Go.Vc Go.Pl Go.Proofs
set_option linter.unusedVariables false
set_option linter.unusedSimpArgs false
abbrev q298 (p0 : q7) (p1 : Unit × (Int × Unit) × Unit × (List Int × Unit) × List (Int × List Int) × List (Int × List Int) × Unit) := (cutD (List.getD (bs { data := #[q526] }) q437 q421)
  (List.drop (Int.toNat p0.2.1) (List.take (Int.toNat p0.1) p1.2.2.2.1.1)))
abbrev q299 := (List.getD (bs { data := #[q526] }) q437 q421)
abbrev q300 (p0 : q3) (p1 : q5) := (bif !p0.2.2.1 then true else !p1.2.1)
abbrev q543 (p0 : q18) (p1 : q1) := (lnZ (List.getD p0.1 (Int.toNat p1.1) (Kd.dft Kd.str)))
abbrev q505 (p0 : q1) (p1 : q18) (p2 : q1) := (p0.1 < (q543 p1 p2))
abbrev q301 (p0 : q1) (p1 : q18) (p2 : q1) := (bif decide (q505 p0 p1 p2) then decide (List.getD (List.getD p1.1 (Int.toNat p2.1) (Kd.dft Kd.str)) (q411 p0) q421 ≠ (61 : Int)) else false)
abbrev q302 (p0 : q1) (p1 : q18) (p2 : q1) := (decide (q505 p0 p1 p2) = true -> (decide (q505 p0 p1 p2) == true) = true /\ True)
abbrev q303 (p0 : q1) (p1 : q18) (p2 : q1) := (decide (q505 p0 p1 p2) = true -> True)
abbrev q304 (p0 : q6) (p1 : q1) (p2 : q18) (p3 : q1) := (p0.1 = List.take (q411 p1) (List.getD p2.1 (Int.toNat p3.1) (Kd.dft Kd.str)))
abbrev q305 (p0 : q1) (p1 : q18) (p2 : q1) := (q421 <= p0.1 /\ p0.1 < (q543 p1 p2))
abbrev q306 (p0 : q1) (p1 : q18) (p2 : q1) := (q421 <= p0.1 /\ p0.1 <= (q543 p1 p2))
abbrev q307 (p0 : q1) (p1 : q18) (p2 : q1) := (decide (q505 p0 p1 p2) == true)
abbrev q308 (p0 : q1) (p1 : q18) (p2 : q1) := (p0.1 < (q543 p1 p2))
abbrev q309 (p0 : q18) (p1 : q1) := (List.getD p0.1 (q411 p1) q425)
abbrev q310 (p0 : q1) (p1 : q18) := (q421 <= p0.1 /\ p0.1 < (lnZ p1.1))
def t32 : Prop :=
  ∀ (x : q6), (q71 x) -> List.length x.1 <= q183 -> q42 <= q72 /\ q42 <= q72 /\ q42 <= q72 /\ (decide (q455 x) = true -> parN x.1 [] q40 = true) /\ (decide (q455 x) = false -> List.length
  [SV.dat Kd.str x.1] <= q72 /\ ∃ (I : Int × Int × Unit -> Unit × (Int × Unit) × Unit × q217 × List q218 × List q218 × Unit -> Prop), ∃ (μ : Int × Int × Unit -> Unit × (Int × Unit) × Unit ×
  q217 × List q218 × List q218 × Unit -> Nat), (Value.bool false = Value.bool false /\ x.1 = x.1 /\ I (q40, q40, ()) ((), (q40, ()), (), (x.1, ()), [], [], ())) /\ ∀ (y : q7) (z : Unit × (Int
  × Unit) × Unit × q217 × List q218 × List q218 × Unit), (q99 y) -> True /\ (wiZ z.2.1.1 /\ True) /\ True /\ (wsZ z.2.2.2.1.1 /\ True) /\ (Kd.wf q277 z.2.2.2.2.1 /\ Kd.wf q277 z.2.2.2.2.2.1
  /\ True) -> I y z -> (decide (y.1 < (lnZ z.2.2.2.1.1)) = true -> (q40 <= y.1 /\ y.1 < (lnZ z.2.2.2.1.1)) /\ (decide (List.getD z.2.2.2.1.1 (q103 y) q40 = (92 : Int)) = true -> Value.bool
  false = Value.bool false /\ x.1 = x.1 /\ I (wrZ (wrZ (q101 y) + q75), y.2.1, ()) ((), (z.2.1.1, ()), (), (z.2.2.2.1.1, ()), z.2.2.2.2.1, z.2.2.2.2.2.1, ()) /\ μ (wrZ (wrZ (q101 y) + q75),
  y.2.1, ()) ((), (z.2.1.1, ()), (), (z.2.2.2.1.1, ()), z.2.2.2.2.1, z.2.2.2.2.2.1, ()) < μ y z) /\ (decide (List.getD z.2.2.2.1.1 (q103 y) q40 = (92 : Int)) = false -> (decide (List.getD
  z.2.2.2.1.1 (q103 y) q40 = (44 : Int)) = true -> (q40 <= y.2.1 /\ y.2.1 <= y.1 /\ y.1 <= (lnZ z.2.2.2.1.1)) /\ (List.length (List.drop (q100 y) (List.take (q103 y) z.2.2.2.1.1)) < q38 /\
  List.length (bs { data := #[q526] }) = q42) /\ (∀ (y_1 : q3), (q43 y_1) -> y_1.1 = (q298 y z).1 /\ y_1.2.1 = (q298 y z).2.1 /\ y_1.2.2.1 = (q298 y z).2.2 -> List.length y_1.2.1 <= q88 /\ (∀
  (y_2 : q5), (q50 y_2) -> (y_2.1, y_2.2.1) = PlainD y_1.2.1 -> True /\ (∀ (y_3 : q1), (q36 y_3) -> y_3.1 = typK y_1.1 -> q76 <= q72 /\ ((!y_1.2.2.1) = false -> True) /\ ((!y_1.2.2.1) = false
  -> ((!y_1.2.2.1) == false) = true /\ True) /\ ((!y_1.2.2.1) = false -> ((!y_1.2.2.1) == false) = true) /\ ((q300 y_1 y_2) = false -> True) /\ ((q300 y_1 y_2) = false -> ((q300 y_1 y_2) ==
  false) = true /\ True /\ (∀ (y_4 : q4), (q49 y_4) -> y_4.1 = mayA (y_3.1, y_2.1) -> ((!y_4.1) = false -> True) /\ (q133 y_4) /\ (q133 y_4) /\ ((!y_4.1) = false -> ((!y_4.1) == false) =
  true) /\ ((bif !y_4.1 then true else decide ((lnZ z.2.2.2.2.2.1) = q423)) = true -> parN x.1 [] (120 : Int) = true) /\ ((bif !y_4.1 then true else decide ((lnZ z.2.2.2.2.2.1) = q423)) =
  false -> q74 < q76 /\ (List.length z.2.2.2.2.2.1 + List.length [(y_3.1, y_2.1)]) * (24 : Nat) <= q158 /\ List.length z.2.2.2.2.2.1 + List.length [(y_3.1, y_2.1)] <= q157 /\ Value.bool false
  = Value.bool false /\ x.1 = x.1 /\ I (wrZ (q101 y), wrZ (q101 y), ()) ((), (z.2.1.1, ()), (), (z.2.2.2.1.1, ()), z.2.2.2.2.1, z.2.2.2.2.2.1 ++ [(y_3.1, y_2.1)], ()) /\ μ (wrZ (q101 y), wrZ
  (q101 y), ()) ((), (z.2.1.1, ()), (), (z.2.2.2.1.1, ()), z.2.2.2.2.1, z.2.2.2.2.2.1 ++ [(y_3.1, y_2.1)], ()) < μ y z)) /\ True) /\ ((q300 y_1 y_2) = !false -> parN x.1 [] (120 : Int) =
  true)) /\ True) /\ True) /\ True) /\ (decide (List.getD z.2.2.2.1.1 (q103 y) q40 = (44 : Int)) = false -> Value.bool false = Value.bool false /\ x.1 = x.1 /\ I (wrZ (q101 y), y.2.1, ())
  ((), (z.2.1.1, ()), (), (z.2.2.2.1.1, ()), z.2.2.2.2.1, z.2.2.2.2.2.1, ()) /\ μ (wrZ (q101 y), y.2.1, ()) ((), (z.2.1.1, ()), (), (z.2.2.2.1.1, ()), z.2.2.2.2.1, z.2.2.2.2.2.1, ()) < μ y
  z))) /\ (decide (y.1 < (lnZ z.2.2.2.1.1)) = false -> (q40 <= y.2.1 /\ y.2.1 <= (lnZ z.2.2.2.1.1)) /\ (List.length (List.drop (q100 y) z.2.2.2.1.1) < q38 /\ List.length (bs { data := #[q526]
  }) = q42) /\ (∀ (y_1 : q3), (q43 y_1) -> y_1.1 = (cutD q299 (List.drop (q100 y) z.2.2.2.1.1)).1 /\ y_1.2.1 = (cutD q299 (List.drop (q100 y) z.2.2.2.1.1)).2.1 /\ y_1.2.2.1 = (cutD q299
  (List.drop (q100 y) z.2.2.2.1.1)).2.2 -> List.length y_1.2.1 <= q88 /\ (∀ (y : q5), (q50 y) -> (y.1, y.2.1) = PlainD y_1.2.1 -> True /\ (∀ (y_2 : q1), (q36 y_2) -> y_2.1 = typK y_1.1 -> q76
  <= q72 /\ ((!y_1.2.2.1) = false -> True) /\ ((!y_1.2.2.1) = false -> ((!y_1.2.2.1) == false) = true /\ True) /\ ((!y_1.2.2.1) = false -> ((!y_1.2.2.1) == false) = true) /\ ((q300 y_1 y) =
  false -> True) /\ ((q300 y_1 y) = false -> ((q300 y_1 y) == false) = true /\ True /\ (∀ (y_3 : q4), (q49 y_3) -> y_3.1 = mayA (y_2.1, y.1) -> ((!y_3.1) = false -> True) /\ (q133 y_3) /\
  (q133 y_3) /\ ((!y_3.1) = false -> ((!y_3.1) == false) = true) /\ ((bif !y_3.1 then true else decide ((lnZ z.2.2.2.2.2.1) = q423)) = true -> parN x.1 [] (120 : Int) = true) /\ ((bif !y_3.1
  then true else decide ((lnZ z.2.2.2.2.2.1) = q423)) = false -> q74 < q76 /\ (List.length z.2.2.2.2.2.1 + List.length [(y_2.1, y.1)]) * (24 : Nat) <= q158 /\ List.length z.2.2.2.2.2.1 +
  List.length [(y_2.1, y.1)] <= q157 /\ parN x.1 (z.2.2.2.2.2.1 ++ [(y_2.1, y.1)]) q40 = true)) /\ True) /\ ((q300 y_1 y) = !false -> parN x.1 [] (120 : Int) = true)) /\ True) /\ True) /\
  True))
theorem e32 : t32 = Con.vc c_name_Parse GL (mkEnv ty [(67, i67), (60, conSem c_strings_Cut), (68, conSem c_name_plain), (69, conSem c_name_typeOf), (70, conSem c_name_may)] [(102, i102)] [] [0, 2, 3, 4, 5, 6, 7, 8, 9, 10, 11, 13, 16, 17, 48]) {} Tryz.f32.ntmps Tryz.f32.results.toList (bodyOf Tryz.f32) := by kernel_rfl
theorem k32 : t32 := by
  unfold t32
  delta q6 q71 q183 q42 q72 q455 q40 q217 q218 q7 q99 wiZ wsZ q277 lnZ q103 wrZ q101 q75 q100 q38 q526 q3 q43 q298 q88 q5 q50 q1 q36 q76 q300 q4 q49 q133 q423 q74 q158 q157 q299 q484 q458 wbZ q437 q421 q541
  rintro ⟨s, _⟩ hx hp
  have hp : s.length ≤ 10000000 := hp
  try dsimp +instances only [dft_int, dft_sl, dft_str]
  simp only [true_and, and_true, eq_self_iff_true, implies_true, reduceCtorEq, false_implies, true_implies, decide_eq_true_eq, decide_eq_false_iff_not, beq_self_eq_true, Bool.not_eq_true', ne_eq, Decidable.not_not, List.nil_append, List.length_singleton, List.length_cons, List.length_nil, Nat.zero_add, Nat.add_zero, Nat.mul_one, and_self, beq_iff_eq, Bool.not_true, Bool.not_false, Bool.not_eq_false', Bool.cond_false_right, Bool.and_eq_true, imp_self, Bool.not_eq_true, Bool.cond_true_left, Bool.or_eq_true]
  rw [show bs { data := #[61] } = [61] by decide, bs_nil]
  refine ⟨by decide, by decide, by decide, fun h => by rw [h]; exact parN_iff.2 (.inl ⟨rfl, rfl, rfl⟩), fun hs => ⟨by decide, ?_⟩⟩
  refine ⟨fun y z => z.2.2.2.1.1 = s ∧ 0 ≤ y.1 ∧ y.1 ≤ s.length + 1 ∧ 0 ≤ y.2.1 ∧ y.2.1 ≤ y.1 ∧ y.2.1 ≤ s.length ∧ (z.2.2.2.2.2.1 : List AttrT).length ≤ 16 ∧ (∀ a ∈ (z.2.2.2.2.2.1 : List AttrT), mayA a = true) ∧ partsE s = (z.2.2.2.2.2.1 : List AttrT).map attrT ++ pcs s y.2.1.toNat y.1.toNat, fun y _ => ((s.length : Int) + 1 - y.1).toNat, ⟨rfl, Int.le_refl 0, by simp only; omega, Int.le_refl 0, Int.le_refl 0, by simp only; omega, by simp, (fun a ha => by cases ha), rfl⟩, ?_⟩
  rintro ⟨i, f, _⟩ ⟨_, ⟨q, _⟩, _, ⟨sv, _⟩, o, acc, _⟩ _ _ ⟨e1, i0, i1, f0, f1, f2, h16, hA, e⟩
  simp only at e1 i0 i1 f0 f1 f2 h16 hA e ⊢
  subst e1
  rw [show ([61] : List Int).getD 0 0 = 61 from rfl]
  refine ⟨fun hlt => ⟨⟨i0, hlt⟩, fun hc => ?_, fun hc => ⟨fun h4 => ⟨⟨f0, f1, by omega⟩, ⟨by have := piece_len (s := sv) (f := f.toNat) (i := i.toNat); omega, rfl⟩, ?_⟩, fun h4 => ?_⟩⟩, fun hge => ⟨⟨f0, f2⟩, ⟨by rw [List.length_drop]; omega, rfl⟩, ?_⟩⟩
  . rw [wrapK (i + 1) (by omega) (by omega), wrapK (i + 1 + 1) (by omega) (by omega)]
    refine ⟨⟨rfl, by omega, by omega, f0, by omega, f2, h16, hA, ?_⟩, by omega⟩
    rw [e, pcs_two (by omega) (by omega) hc, show i.toNat + 2 = (i + 1 + 1).toNat by omega]
  . have hlen := piece_len (s := sv) (f := f.toNat) (i := i.toNat)
    rw [pcs_comma (by omega) h4, show i.toNat + 1 = (i + 1).toNat by omega] at e
    generalize (sv.take i.toNat).drop f.toNat = p at e hlen
    have hn : noC p = true := parts_noC (s := sv) (by rw [e]; simp)
    have hcl := cut_len p
    rintro ⟨w, r, g, _⟩ _ ⟨ew, er, eg⟩
    simp only at ew er eg ⊢
    refine ⟨by rw [er]; omega, ?_⟩
    rintro ⟨v, ok, _⟩ _ ev
    rintro ⟨k, _⟩ _ ek
    simp only at ev ek ⊢
    subst ew er eg ek
    have ev1 : v = (PlainD (cutD 61 p).2.1).1 := (congrArg Prod.fst ev)
    have ev2 : ok = (PlainD (cutD 61 p).2.1).2 := (congrArg Prod.snd ev)
    subst ev1 ev2
    refine ⟨by decide, fun hh => ⟨hh, ?_⟩, fun hh => piece_bad hs e (.inl (pA_none (hh.imp id .inl)))⟩
    simp only [Bool.or_eq_false_iff, Bool.not_eq_false'] at hh
    rintro ⟨b, _⟩ _ eb
    simp only at eb ⊢
    subst eb
    refine ⟨fun hh2 => piece_bad hs e (hh2.imp (fun h => pA_none (.inr (.inr h))) (by omega)), fun hh2 => ?_⟩
    simp only [Bool.or_eq_false_iff, Bool.not_eq_false', decide_eq_false_iff_not] at hh2
    obtain ⟨k1, k2⟩ := attr_pA hn (pA_some hh.1 hh.2 hh2.1)
    rw [wrapK (i + 1) (by omega) (by omega)]
    refine ⟨by decide, by omega, by omega, ⟨by trivial, by omega, by omega, by omega, by omega, by omega, by rw [List.length_append, List.length_singleton]; omega, fun a ha => ?_, ?_⟩, by omega⟩
    . rcases List.mem_append.1 ha with ha | ha
      . exact hA a ha
      . rw [List.mem_singleton.1 ha]; exact k2
    . rw [e, List.map_append, List.map_singleton, k1]; simp
  . rw [wrapK (i + 1) (by omega) (by omega)]
    refine ⟨⟨rfl, by omega, by omega, f0, by omega, f2, h16, hA, ?_⟩, by omega⟩
    rw [e, pcs_one (by omega) (by omega) h4 hc, show i.toNat + 1 = (i + 1).toNat by omega]
  . have hlen : (sv.drop f.toNat).length ≤ sv.length := by rw [List.length_drop]; omega
    rw [pcs_end (by omega)] at e
    generalize sv.drop f.toNat = p at e hlen
    have hn : noC p = true := parts_noC (s := sv) (by rw [e]; simp)
    have hcl := cut_len p
    rintro ⟨w, r, g, _⟩ _ ⟨ew, er, eg⟩
    simp only at ew er eg ⊢
    refine ⟨by rw [er]; omega, ?_⟩
    rintro ⟨v, ok, _⟩ _ ev
    rintro ⟨k, _⟩ _ ek
    simp only at ev ek ⊢
    subst ew er eg ek
    have ev1 : v = (PlainD (cutD 61 p).2.1).1 := (congrArg Prod.fst ev)
    have ev2 : ok = (PlainD (cutD 61 p).2.1).2 := (congrArg Prod.snd ev)
    subst ev1 ev2
    refine ⟨by decide, fun hh => ⟨hh, ?_⟩, fun hh => piece_bad hs e (.inl (pA_none (hh.imp id .inl)))⟩
    simp only [Bool.or_eq_false_iff, Bool.not_eq_false'] at hh
    rintro ⟨b, _⟩ _ eb
    simp only at eb ⊢
    subst eb
    refine ⟨fun hh2 => piece_bad hs e (hh2.imp (fun h => pA_none (.inr (.inr h))) (by omega)), fun hh2 => ?_⟩
    simp only [Bool.or_eq_false_iff, Bool.not_eq_false', decide_eq_false_iff_not] at hh2
    obtain ⟨k1, k2⟩ := attr_pA hn (pA_some hh.1 hh.2 hh2.1)
    refine ⟨by decide, by omega, by omega, read_ok hs (by rw [List.length_append, List.length_singleton]; omega) ?_ fun a ha => ?_⟩
    . rw [e, List.map_append, List.map_singleton, k1]
    . rcases List.mem_append.1 ha with ha | ha
      . exact hA a ha
      . rw [List.mem_singleton.1 ha]; exact k2
theorem h32 : c_name_Parse.ok Tryz.prog GL 32 := con_ok (H := {}) (mkEnv_ok (gl := GL) (l := [(67, i67), (60, conSem c_strings_Cut), (68, conSem c_name_plain), (69, conSem c_name_typeOf), (70, conSem c_name_may)]) (q := [(102, i102)]) (d := []) _ tyOk (by kernel_rfl) ⟨i67_ok, h60.call, h68.call, h69.call, h70.call, trivial⟩ ⟨i102_ok, trivial⟩ trivial) (by kernel_rfl) (by kernel_rfl) (Eq.mp e32 k32)
def t35 : Prop :=
  ∀ (x : q6), (q71 x) -> List.length x.1 <= q183 -> (decide (q455 x) = true -> parN x.1 [] q40 = true) /\ (decide (q455 x) = false -> List.length x.1 <= q183 /\ (∀ (y : q18), (q181 y) -> y.1
  = partsE x.1 -> ∃ (I : Int × Unit -> List q218 × Unit -> Prop), ∃ (μ : Int × Unit -> List q218 × Unit -> Nat), (Value.bool false = Value.bool false /\ q40 = q40 /\ Value.slice none q74 q74
  = Value.slice none q74 q74 /\ x.1 = x.1 /\ y.1 = y.1 /\ I (q40, ()) ([], ())) /\ ∀ (y_1 : q1) (z : q16), (q36 y_1) -> (q150 z) -> I y_1 z -> (decide (y_1.1 < (lnZ y.1)) = true -> ∃ (I_1 :
  q13), ∃ (μ_1 : Int × Unit -> Unit -> Nat), (Value.bool true = Value.bool true /\ y_1.1 = y_1.1 /\ Value.bool false = Value.bool false /\ q40 = q40 /\ Value.slice none q74 q74 = Value.slice
  none q74 q74 /\ x.1 = x.1 /\ y.1 = y.1 /\ z.1 = z.1 /\ I_1 (q40, ()) ()) /\ ∀ (y_2 : q1) (z_1 : Unit), (q36 y_2) -> True -> I_1 y_2 z_1 -> (q310 y_1 y) /\ (q303 y_2 y y_1) /\ (q303 y_2 y
  y_1) /\ (decide (q308 y_2 y y_1) = true -> (q307 y_2 y y_1) = true /\ (q307 y_2 y y_1) = true /\ (q310 y_1 y) /\ True) /\ (q302 y_2 y y_1) /\ (q303 y_2 y y_1) /\ (decide (q308 y_2 y y_1) =
  true -> (q307 y_2 y y_1) = true /\ (q307 y_2 y y_1) = true /\ (q305 y_2 y y_1) /\ True) /\ (q302 y_2 y y_1) /\ (decide (q308 y_2 y y_1) = true -> (q307 y_2 y y_1) = true) /\ ((q301 y_2 y
  y_1) = true -> Value.bool true = Value.bool true /\ y_1.1 = y_1.1 /\ Value.bool false = Value.bool false /\ q40 = q40 /\ Value.slice none q74 q74 = Value.slice none q74 q74 /\ x.1 = x.1 /\
  y.1 = y.1 /\ z.1 = z.1 /\ I_1 (wrZ (q249 y_2), ()) () /\ μ_1 (wrZ (q249 y_2), ()) () < μ_1 y_2 z_1) /\ ((q301 y_2 y y_1) = false -> ∃ (I_2 : q11), ∃ (μ_2 : q12), (Value.bool false =
  Value.bool false /\ y_2.1 = y_2.1 /\ Value.bool true = Value.bool true /\ y_1.1 = y_1.1 /\ Value.bool false = Value.bool false /\ q40 = q40 /\ Value.slice none q74 q74 = Value.slice none
  q74 q74 /\ x.1 = x.1 /\ y.1 = y.1 /\ z.1 = z.1 /\ I_2 (q75, q40, ()) ()) /\ ∀ (y_3 : q7) (z_2 : Unit), (q99 y_3) -> True -> I_2 y_3 z_2 -> (decide (y_3.1 < q73) = true -> (True /\ (∀ (y_4 :
  q6), (q71 y_4) -> y_4.1 = labelK y_3.1 -> ((decide (q81 y_4) = true -> (q80 y_4) = true /\ (q80 y_4) = true /\ (q310 y_1 y) /\ True) /\ ((decide (q81 y_4) = true -> (q80 y_4) = true /\ True
  /\ (∀ (y_5 : q6), (q71 y_5) -> y_5.1 = labelK y_3.1 -> ((q80 y_4) = true /\ ((q80 y_4) = true /\ (q306 y_2 y y_1) /\ (((decide (q304 y_5 y_2 y y_1) = true -> Value.bool false = Value.bool
  false /\ y_2.1 = y_2.1 /\ Value.bool true = Value.bool true /\ y_1.1 = y_1.1 /\ Value.bool false = Value.bool false /\ q40 = q40 /\ Value.slice none q74 q74 = Value.slice none q74 q74 /\
  x.1 = x.1 /\ y.1 = y.1 /\ z.1 = z.1 /\ I_2 (wrZ (q101 y_3), y_3.1, ()) () /\ μ_2 (wrZ (q101 y_3), y_3.1, ()) () < μ_2 y_3 z_2) /\ (decide (q304 y_5 y_2 y y_1) = false -> Value.bool false =
  Value.bool false /\ y_2.1 = y_2.1 /\ Value.bool true = Value.bool true /\ y_1.1 = y_1.1 /\ Value.bool false = Value.bool false /\ q40 = q40 /\ Value.slice none q74 q74 = Value.slice none
  q74 q74 /\ x.1 = x.1 /\ y.1 = y.1 /\ z.1 = z.1 /\ I_2 (wrZ (q101 y_3), y_3.2.1, ()) () /\ μ_2 (wrZ (q101 y_3), y_3.2.1, ()) () < μ_2 y_3 z_2)) /\ True) /\ True) /\ True) /\ True) /\ True)
  /\ (decide (q81 y_4) = !true -> ((((Value.bool false = Value.bool false /\ y_2.1 = y_2.1 /\ Value.bool true = Value.bool true /\ y_1.1 = y_1.1 /\ Value.bool false = Value.bool false /\ q40
  = q40 /\ Value.slice none q74 q74 = Value.slice none q74 q74 /\ x.1 = x.1 /\ y.1 = y.1 /\ z.1 = z.1 /\ I_2 (wrZ (q101 y_3), y_3.2.1, ()) () /\ μ_2 (wrZ (q101 y_3), y_3.2.1, ()) () < μ_2 y_3
  z_2) /\ True) /\ True) /\ True) /\ True)) /\ ((q79 y_4) /\ ((decide (q81 y_4) = true -> (q80 y_4) = true /\ True /\ (∀ (y_5 : q6), (q71 y_5) -> y_5.1 = labelK y_3.1 -> ((q80 y_4) = true /\
  (q80 y_4) = true /\ (q306 y_2 y y_1) /\ (((decide (q304 y_5 y_2 y y_1) = true -> Value.bool false = Value.bool false /\ y_2.1 = y_2.1 /\ Value.bool true = Value.bool true /\ y_1.1 = y_1.1
  /\ Value.bool false = Value.bool false /\ q40 = q40 /\ Value.slice none q74 q74 = Value.slice none q74 q74 /\ x.1 = x.1 /\ y.1 = y.1 /\ z.1 = z.1 /\ I_2 (wrZ (q101 y_3), y_3.1, ()) () /\
  μ_2 (wrZ (q101 y_3), y_3.1, ()) () < μ_2 y_3 z_2) /\ (decide (q304 y_5 y_2 y y_1) = false -> Value.bool false = Value.bool false /\ y_2.1 = y_2.1 /\ Value.bool true = Value.bool true /\
  y_1.1 = y_1.1 /\ Value.bool false = Value.bool false /\ q40 = q40 /\ Value.slice none q74 q74 = Value.slice none q74 q74 /\ x.1 = x.1 /\ y.1 = y.1 /\ z.1 = z.1 /\ I_2 (wrZ (q101 y_3),
  y_3.2.1, ()) () /\ μ_2 (wrZ (q101 y_3), y_3.2.1, ()) () < μ_2 y_3 z_2)) /\ True) /\ True) /\ True) /\ True) /\ (decide (q81 y_4) = !true -> (((Value.bool false = Value.bool false /\ y_2.1 =
  y_2.1 /\ Value.bool true = Value.bool true /\ y_1.1 = y_1.1 /\ Value.bool false = Value.bool false /\ q40 = q40 /\ Value.slice none q74 q74 = Value.slice none q74 q74 /\ x.1 = x.1 /\ y.1 =
  y.1 /\ z.1 = z.1 /\ I_2 (wrZ (q101 y_3), y_3.2.1, ()) () /\ μ_2 (wrZ (q101 y_3), y_3.2.1, ()) () < μ_2 y_3 z_2) /\ True) /\ True) /\ True)) /\ ((decide (q81 y_4) = true -> (q80 y_4) = true
  /\ (q80 y_4) = true /\ (q306 y_2 y y_1) /\ True) /\ ((decide (q81 y_4) = true -> (q80 y_4) = true /\ True /\ (∀ (y_5 : q6), (q71 y_5) -> y_5.1 = labelK y_3.1 -> ((q80 y_4) = true /\
  ((decide (q304 y_5 y_2 y y_1) = true -> Value.bool false = Value.bool false /\ y_2.1 = y_2.1 /\ Value.bool true = Value.bool true /\ y_1.1 = y_1.1 /\ Value.bool false = Value.bool false /\
  q40 = q40 /\ Value.slice none q74 q74 = Value.slice none q74 q74 /\ x.1 = x.1 /\ y.1 = y.1 /\ z.1 = z.1 /\ I_2 (wrZ (q101 y_3), y_3.1, ()) () /\ μ_2 (wrZ (q101 y_3), y_3.1, ()) () < μ_2 y_3
  z_2) /\ (decide (q304 y_5 y_2 y y_1) = false -> Value.bool false = Value.bool false /\ y_2.1 = y_2.1 /\ Value.bool true = Value.bool true /\ y_1.1 = y_1.1 /\ Value.bool false = Value.bool
  false /\ q40 = q40 /\ Value.slice none q74 q74 = Value.slice none q74 q74 /\ x.1 = x.1 /\ y.1 = y.1 /\ z.1 = z.1 /\ I_2 (wrZ (q101 y_3), y_3.2.1, ()) () /\ μ_2 (wrZ (q101 y_3), y_3.2.1, ())
  () < μ_2 y_3 z_2)) /\ True) /\ True) /\ True) /\ (decide (q81 y_4) = !true -> ((Value.bool false = Value.bool false /\ y_2.1 = y_2.1 /\ Value.bool true = Value.bool true /\ y_1.1 = y_1.1 /\
  Value.bool false = Value.bool false /\ q40 = q40 /\ Value.slice none q74 q74 = Value.slice none q74 q74 /\ x.1 = x.1 /\ y.1 = y.1 /\ z.1 = z.1 /\ I_2 (wrZ (q101 y_3), y_3.2.1, ()) () /\ μ_2
  (wrZ (q101 y_3), y_3.2.1, ()) () < μ_2 y_3 z_2) /\ True) /\ True)) /\ True) /\ True) /\ True) /\ True) /\ True) /\ True) /\ (decide (y_3.1 < q73) = false -> ∃ (I_3 : q19), ∃ (μ_3 : q20),
  (Value.bool false = Value.bool false /\ y_3.1 = y_3.1 /\ y_3.2.1 = y_3.2.1 /\ Value.bool false = Value.bool false /\ y_2.1 = y_2.1 /\ Value.bool true = Value.bool true /\ y_1.1 = y_1.1 /\
  Value.bool false = Value.bool false /\ q40 = q40 /\ Value.slice none q74 q74 = Value.slice none q74 q74 /\ x.1 = x.1 /\ y.1 = y.1 /\ z.1 = z.1 /\ I_3 (wrZ (q249 y_2), ()) ([], ())) /\ ∀
  (y_4 : q1) (z_3 : q6), (q36 y_4) -> (q159 z_3) -> I_3 y_4 z_3 -> (q310 y_1 y) /\ (decide (q308 y_4 y y_1) = true -> ∃ (J : q13), ((q310 y_1 y) /\ (q305 y_4 y y_1) /\ (decide (List.getD
  (q309 y y_1) (q411 y_4) q40 = (92 : Int)) = true -> Value.bool true = Value.bool true /\ Value.bool false = Value.bool false /\ y_3.1 = y_3.1 /\ y_3.2.1 = y_3.2.1 /\ Value.bool false =
  Value.bool false /\ y_2.1 = y_2.1 /\ Value.bool true = Value.bool true /\ y_1.1 = y_1.1 /\ Value.bool false = Value.bool false /\ q40 = q40 /\ Value.slice none q74 q74 = Value.slice none
  q74 q74 /\ x.1 = x.1 /\ y.1 = y.1 /\ z.1 = z.1 /\ z_3.1 = z_3.1 /\ J (wrZ (q249 y_4), ()) ()) /\ (decide (List.getD (q309 y y_1) (q411 y_4) q40 = (92 : Int)) = false -> Value.bool true =
  Value.bool true /\ Value.bool false = Value.bool false /\ y_3.1 = y_3.1 /\ y_3.2.1 = y_3.2.1 /\ Value.bool false = Value.bool false /\ y_2.1 = y_2.1 /\ Value.bool true = Value.bool true /\
  y_1.1 = y_1.1 /\ Value.bool false = Value.bool false /\ q40 = q40 /\ Value.slice none q74 q74 = Value.slice none q74 q74 /\ x.1 = x.1 /\ y.1 = y.1 /\ z.1 = z.1 /\ z_3.1 = z_3.1 /\ J (y_4.1,
  ()) ())) /\ ∀ (u : q1) (z_4 : Unit), (q36 u) -> True -> J u z_4 -> (q310 y_1 y) /\ (decide (q308 u y y_1) = true -> (q310 y_1 y) /\ (q305 u y y_1) /\ q74 < q42 /\ (List.length z_3.1 +
  List.length [List.getD (q309 y y_1) (q411 u) q40]) * q42 <= q158 /\ List.length z_3.1 + List.length [List.getD (q309 y y_1) (q411 u) q40] <= q157 /\ Value.bool false = Value.bool false /\
  y_3.1 = y_3.1 /\ y_3.2.1 = y_3.2.1 /\ Value.bool false = Value.bool false /\ y_2.1 = y_2.1 /\ Value.bool true = Value.bool true /\ y_1.1 = y_1.1 /\ Value.bool false = Value.bool false /\
  q40 = q40 /\ Value.slice none q74 q74 = Value.slice none q74 q74 /\ x.1 = x.1 /\ y.1 = y.1 /\ z.1 = z.1 /\ I_3 (wrZ (q249 u), ()) (z_3.1 ++ [List.getD (q309 y y_1) (q411 u) q40], ()) /\ μ_3
  (wrZ (q249 u), ()) (z_3.1 ++ [List.getD (q309 y y_1) (q411 u) q40], ()) < μ_3 y_4 z_3) /\ (decide (q308 u y y_1) = false -> Value.bool false = Value.bool false /\ y_3.1 = y_3.1 /\ y_3.2.1 =
  y_3.2.1 /\ Value.bool false = Value.bool false /\ y_2.1 = y_2.1 /\ Value.bool true = Value.bool true /\ y_1.1 = y_1.1 /\ Value.bool false = Value.bool false /\ q40 = q40 /\ Value.slice none
  q74 q74 = Value.slice none q74 q74 /\ x.1 = x.1 /\ y.1 = y.1 /\ z.1 = z.1 /\ I_3 (wrZ (q249 u), ()) (z_3.1, ()) /\ μ_3 (wrZ (q249 u), ()) (z_3.1, ()) < μ_3 y_4 z_3)) /\ (decide (q308 y_4 y
  y_1) = false -> q74 < q76 /\ (List.length z.1 + List.length [(y_3.2.1, z_3.1)]) * (24 : Nat) <= q158 /\ List.length z.1 + List.length [(y_3.2.1, z_3.1)] <= q157 /\ Value.bool false =
  Value.bool false /\ q40 = q40 /\ Value.slice none q74 q74 = Value.slice none q74 q74 /\ x.1 = x.1 /\ y.1 = y.1 /\ I (wrZ (q249 y_1), ()) (z.1 ++ [(y_3.2.1, z_3.1)], ()) /\ μ (wrZ (q249
  y_1), ()) (z.1 ++ [(y_3.2.1, z_3.1)], ()) < μ y_1 z)))) /\ (decide (y_1.1 < (lnZ y.1)) = false -> (List.length z.1 <= q88 /\ ∀ (a : q17), a ∈ z.1 -> List.length a.2 <= q175) /\ (∀ (y : q0),
  (q98 y) -> (y.1, y.2.1) = TextN z.1 -> (q282 y) /\ (q282 y) /\ (q278 y) /\ (q280 y) /\ ((q281 y x) = true -> parN x.1 [] (120 : Int) = true) /\ ((q281 y x) = false -> parN x.1 z.1 q40 =
  true)) /\ True)) /\ True)
theorem e35 : t35 = Con.vc c_r12_Parse GL (mkEnv ty [(74, conSem c_r12_Parts), (50, conSem c_r12_Label), (18, conSem c_r12_Text)] [] [] [0, 2, 3, 4, 5, 6, 7, 8, 9, 10, 11, 12, 13, 15, 21, 39, 43, 59, 69, 78, 87, 115]) {joins := [23]} Tryz.f35.ntmps Tryz.f35.results.toList (bodyOf Tryz.f35) := by kernel_rfl
theorem k35 : t35 := by
  unfold t35
  delta q6 q71 q183 q455 q40 q18 q181 q218 q74 q1 q16 q36 q150 lnZ q13 q310 q303 q308 q307 q302 q305 q301 wrZ q249 q11 q12 q75 q7 q99 q73 q81 q80 q306 q304 q101 q79 q19 q20 q159 q309 q411 q42 q158 q157 q76 q88 q17 q175 q0 q98 q282 q278 q280 q281 wsZ wiZ q484 q421 q505 q543 q458 wyZ q425 q473 q541 q529
  rintro ⟨s, _⟩ hx hp
  have hp : s.length ≤ 10000000 := hp
  try dsimp +instances only [dft_int, dft_sl, dft_str]
  simp only [true_and, and_true, eq_self_iff_true, implies_true, reduceCtorEq, false_implies, true_implies, decide_eq_true_eq, decide_eq_false_iff_not, beq_self_eq_true, Bool.not_eq_true', ne_eq, Decidable.not_not, List.nil_append, List.length_singleton, List.length_cons, List.length_nil, Nat.zero_add, Nat.add_zero, Nat.mul_one, and_self, beq_iff_eq, Bool.not_true, Bool.not_false, Bool.not_eq_false', Bool.cond_false_right, Bool.and_eq_true, imp_self, Bool.not_eq_true, Bool.cond_true_left, Bool.or_eq_true]
  rw [bs_nil]
  refine ⟨fun h => by rw [h]; exact parN_iff.2 (.inl ⟨rfl, rfl, rfl⟩), fun hs => ⟨hp, ?_⟩⟩
  rintro ⟨L, _⟩ _ eL
  simp only at eL ⊢
  have hcnt := pcs_len s
  rw [← eL] at hcnt
  have hpl : ∀ p ∈ L, p.length ≤ s.length := fun p hm => parts_len (by rw [← eL]; exact hm)
  refine ⟨fun y z => 0 ≤ y.1 ∧ y.1 ≤ L.length ∧ z.1 = (L.take y.1.toNat).map gA, fun y _ => ((L.length : Int) - y.1).toNat, ⟨Int.le_refl 0, by simp only; omega, rfl⟩, ?_⟩
  rintro ⟨i, _⟩ ⟨n, _⟩ _ _ ⟨i0, i1, en⟩
  simp only at i0 i1 en ⊢
  have hnl : n.length ≤ L.length := by rw [en, List.length_map, List.length_take]; omega
  refine ⟨fun hlt => ?_, fun hge => ?_⟩
  . have hm := hpl _ (mem_getD [] L i.toNat (by omega))
    have hst : (L.take (i.toNat + 1)).map gA = n ++ [gA (L.getD i.toNat [])] := by rw [take_snocA [] L i.toNat (by omega), List.map_append, ← en]; rfl
    generalize L.getD i.toNat [] = p at hm hst
    refine ⟨fun y _ => 0 ≤ y.1 ∧ y.1 ≤ p.length ∧ ∀ j, j < y.1.toNat → p.getD j 0 ≠ 61, fun y _ => ((p.length : Int) - y.1).toNat, ⟨Int.le_refl 0, by simp only; omega, fun j hj => by simp at hj⟩, ?_⟩
    rintro ⟨a, _⟩ _ _ ⟨a0, a1, ha⟩
    simp only at a0 a1 ha ⊢
    refine ⟨⟨i0, hlt⟩, fun h => ⟨h, h, i0, hlt⟩, fun h => ⟨h, h, a0, h⟩, fun h => ?_, fun h => ?_⟩
    . rw [wrapK (a + 1) (by omega) (by omega)]
      refine ⟨⟨by omega, by omega, fun j hj => ?_⟩, by omega⟩
      by_cases hj2 : j < a.toNat
      . exact ha j hj2
      . rw [show j = a.toNat by omega]; exact h.2
    . have hw : (cutD 61 p).1 = p.take a.toNat := eq_before ha (by omega) (by
        simp only [Bool.and_eq_false_iff, decide_eq_false_iff_not, Decidable.not_not] at h
        omega)
      rw [← hw]
      have hal : (cutD 61 p).1.length = a.toNat := by rw [hw, List.length_take]; omega
      refine ⟨fun y _ => 1 ≤ y.1 ∧ y.1 ≤ 12 ∧ y.2.1 = if 1 ≤ typK (cutD 61 p).1 ∧ typK (cutD 61 p).1 < y.1 then typK (cutD 61 p).1 else 0, fun y _ => (12 - y.1).toNat, ⟨by decide, by decide, by rw [if_neg (by simp only; omega)]⟩, ?_⟩
      rintro ⟨k, r, _⟩ _ _ ⟨k0, k1, er⟩
      simp only at k0 k1 er ⊢
      refine ⟨fun hk => ?_, fun hk => ?_⟩
      . have b0 : 0 ≤ i ∧ i < (L.length : Int) := ⟨i0, hlt⟩
        have b1 : 0 ≤ a ∧ a ≤ (p.length : Int) := ⟨a0, a1⟩
        rw [wrapK (k + 1) (by omega) (by omega)]
        have S1 : labelK k ≠ [] → labelK k = (cutD 61 p).1 → (1 ≤ k + 1 ∧ k + 1 ≤ 12 ∧ k = if 1 ≤ typK (cutD 61 p).1 ∧ typK (cutD 61 p).1 < k + 1 then typK (cutD 61 p).1 else 0) ∧ (12 - (k + 1)).toNat < (12 - k).toNat := fun h1 h2 => by
          have := typ_label h1
          rw [h2] at this
          refine ⟨⟨by omega, by omega, ?_⟩, by omega⟩
          rw [this, if_pos (by omega)]
        have S0 : typK (cutD 61 p).1 ≠ k → (1 ≤ k + 1 ∧ k + 1 ≤ 12 ∧ r = if 1 ≤ typK (cutD 61 p).1 ∧ typK (cutD 61 p).1 < k + 1 then typK (cutD 61 p).1 else 0) ∧ (12 - (k + 1)).toNat < (12 - k).toNat := fun h1 => by
          refine ⟨⟨by omega, by omega, ?_⟩, by omega⟩
          rw [er]
          by_cases hc : 1 ≤ typK (cutD 61 p).1 ∧ typK (cutD 61 p).1 < k
          . rw [if_pos hc, if_pos (by omega)]
          . rw [if_neg hc, if_neg (by omega)]
        have S2 : labelK k ≠ (cutD 61 p).1 → typK (cutD 61 p).1 ≠ k := fun h1 h2 => h1 (by
          rw [← h2]; exact (typ_range (by omega)).2.2.1)
        have S3 : labelK k = [] → typK (cutD 61 p).1 ≠ k := fun h1 h2 => (typ_range (s := (cutD 61 p).1) (by omega)).2.2.2 (by
          rw [← (typ_range (s := (cutD 61 p).1) (by omega)).2.2.1, h2, h1])
        rintro ⟨l, _⟩ _ el
        simp only at el ⊢
        subst el
        have two : labelK k ≠ [] → ∀ y : List Int × Unit, Kd.str.wf y.1 → y.1 = labelK k → (y.1 = (cutD 61 p).1 → _) ∧ (¬ y.1 = (cutD 61 p).1 → _) := fun h1 y _ e => ⟨fun h => S1 h1 (e.symm.trans h), fun h => S0 (S2 fun h2 => h (e.trans h2))⟩
        exact ⟨fun h => ⟨h, h, b0⟩, ⟨fun h => ⟨h, fun y hy e => ⟨h, h, b1, two h y hy e⟩⟩, fun h => S0 (S3 h)⟩, ⟨fun h => ⟨h, fun y hy e => ⟨h, h, b1, two h y hy e⟩⟩, fun h => S0 (S3 h)⟩, fun h => ⟨h, h, b1⟩, fun h => ⟨h, fun y hy e => ⟨h, two h y hy e⟩⟩, fun h => S0 (S3 h)⟩
      . have er2 : r = typK (cutD 61 p).1 := by
          rw [er]
          by_cases hz : typK (cutD 61 p).1 = 0
          . rw [hz]; split <;> rfl
          . have := typ_range hz
            rw [if_pos (by omega)]
        rw [wrapK (a + 1) (by omega) (by omega)]
        refine ⟨fun y z => a + 1 ≤ y.1 ∧ y.1 ≤ p.length + 1 ∧ (z.1 : List Int).length ≤ y.1 ∧ looseD (p.drop (a.toNat + 1)) = z.1 ++ looseD (p.drop y.1.toNat), fun y _ => ((p.length : Int) + 1 - y.1).toNat, ⟨Int.le_refl _, by simp only; omega, by simp only [List.length_nil]; omega, by simp only; rw [show (a + 1).toNat = a.toNat + 1 by omega]; rfl⟩, ?_⟩
        rintro ⟨k, _⟩ ⟨v, _⟩ _ _ ⟨c0, c1, c2, ec⟩
        simp only at c0 c1 c2 ec ⊢
        refine ⟨⟨i0, hlt⟩, fun hkl => ?_, fun hkl => ?_⟩
        . have hdk := drop_cons p k.toNat (by omega)
          refine ⟨fun u _ => u.1 = if p.getD k.toNat 0 = 92 then k + 1 else k, ⟨⟨i0, hlt⟩, ⟨by omega, hkl⟩, fun hc => ?_, fun hc => ?_⟩, ?_⟩
          . rw [wrapK (k + 1) (by omega) (by omega), if_pos hc]
          . rw [if_neg hc]
          . rintro ⟨u, _⟩ _ _ eu
            simp only at eu ⊢
            by_cases hc : p.getD k.toNat 0 = 92
            . rw [if_pos hc] at eu
              subst eu
              rw [wrapK (k + 1 + 1) (by omega) (by omega)]
              rw [hdk, hc] at ec
              refine ⟨⟨i0, hlt⟩, fun hk1 => ⟨⟨i0, hlt⟩, ⟨by omega, hk1⟩, by decide, by omega, by omega, ⟨by omega, by omega, by rw [List.length_append, List.length_singleton]; omega, ?_⟩, by omega⟩, fun hk1 => ⟨⟨by omega, by omega, by omega, ?_⟩, by omega⟩⟩
              . rw [ec, drop_cons p (k.toNat + 1) (by omega), loose_two, show k.toNat + 1 = (k + 1).toNat by omega, show (k + 1).toNat + 1 = (k + 1 + 1).toNat by omega]
                simp
              . rw [ec, List.drop_of_length_le (l := p) (i := k.toNat + 1) (by omega), List.drop_of_length_le (by omega)]
                rfl
            . rw [if_neg hc] at eu
              subst eu
              rw [wrapK (u + 1) (by omega) (by omega)]
              rw [hdk, loose_one hc] at ec
              refine ⟨⟨i0, hlt⟩, fun hk1 => ⟨⟨i0, hlt⟩, ⟨by omega, hk1⟩, by decide, by omega, by omega, ⟨by omega, by omega, by rw [List.length_append, List.length_singleton]; omega, ?_⟩, by omega⟩, fun hk1 => absurd hkl hk1⟩
              rw [ec, show u.toNat + 1 = (u + 1).toNat by omega]
              simp
        . rw [List.drop_of_length_le (l := p) (i := k.toNat) (by omega)] at ec
          rw [wrapK (i + 1) (by omega) (by omega)]
          refine ⟨by decide, by omega, by omega, ⟨by omega, by omega, ?_⟩, by omega⟩
          rw [show (i + 1).toNat = i.toNat + 1 by omega, hst, gA, hal, ec, er2]
          simp [looseD]
  . have hnA : ∀ x ∈ n, x.2.length ≤ 100000000 := fun x hx => by
      rw [en] at hx
      obtain ⟨p, hp2, rfl⟩ := List.mem_map.1 hx
      have h1 := hpl p (List.mem_of_mem_take hp2)
      have h2 := loose_len (p.drop ((cutD 61 p).1.length + 1))
      rw [List.length_drop] at h2
      show (looseD _).length ≤ _
      omega
    have enL : n = (partsE s).map gA := by rw [en, List.take_of_length_le (by omega), eL]
    refine ⟨⟨by omega, hnA⟩, ?_⟩
    rintro ⟨t, e, _⟩ _ hT
    simp only at hT ⊢
    have hg := guess_par hs
    rw [← enL, ← hT] at hg
    refine ⟨fun h => ?_, fun h => ?_⟩
    . rwa [if_neg (fun h2 => by obtain ⟨rfl, rfl⟩ := Prod.mk.inj h2; exact h.elim (fun h => h rfl) (fun h => h rfl)), if_neg (fun h2 => by obtain ⟨rfl, rfl⟩ := Prod.mk.inj h2; exact h.elim (fun h => h rfl) (fun h => h rfl))] at hg
    . simp only [Bool.or_eq_false_iff, decide_eq_false_iff_not, Decidable.not_not] at h
      obtain ⟨rfl, rfl⟩ := h
      rwa [if_pos rfl, if_pos rfl] at hg
theorem h35 : c_r12_Parse.ok Tryz.prog GL 35 := con_ok (H := {joins := [23]}) (mkEnv_ok (gl := GL) (l := [(74, conSem c_r12_Parts), (50, conSem c_r12_Label), (18, conSem c_r12_Text)]) (q := []) (d := []) _ tyOk (by kernel_rfl) ⟨h74.call, h50.call, h18.call, trivial⟩ trivial trivial) (by kernel_rfl) (by kernel_rfl) (Eq.mp e35 k35)
end Go.Proofs.YtlpbhgcndebkcaaGreatDoor
end
