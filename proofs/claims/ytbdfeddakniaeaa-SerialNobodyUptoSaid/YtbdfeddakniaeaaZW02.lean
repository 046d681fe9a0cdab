/- Texts of a verified walk, led together: SerA, SerW. -/
import Derived.Test.YtbdfeddakniaeaaZW01
import Derived.Test.YtbdfeddakniaeaaZV06
set_option linter.unusedVariables false
set_option linter.unusedSimpArgs false
section
namespace Go.Proofs.Ytbdfeddakniaeaa
open Go Go.Vc Go.Pl Go.Proofs
abbrev BB : Kd := .sl BY
def OfD (x : List Int) : List Int × Int := if x.length < 16 then ([], 270) else ((x.take 16).set 0 (x.getD 0 0 % 64 + 64), 0)
def c_serial_Of : Con := { args := [.dat BY], res := [.own 5 U8, .dat I64], pre := fun x => x.1.length ≤ 1000000000, post := fun x y => (y.1, y.2.1) = OfD x.1 }
def c_law27_names : Con := { args := [], res := [.dat .bool], pre := fun _ => True, post := fun _ y => y.1 = true }
def c_law27_works : Con := { args := [], res := [.dat .bool], pre := fun _ => True, post := fun _ y => y.1 = true }
def c_law27_SerialNobody : Con := { args := [.dat BB], res := [.dat .bool], pre := fun x => ABulk [.dat BB] x ≤ 1048576, post := fun _ y => y.1 = true }
end Go.Proofs.Ytbdfeddakniaeaa
end
section
namespace Go.Proofs.Ytbdfeddakniaeaa
open Go Go.Vc Go.Pl Go.Proofs
set_option linter.unusedVariables false
set_option linter.unusedSimpArgs false
theorem bits (x : Int) (h0 : 0 ≤ x) (h1 : x ≤ 255) : IntKind.wrap .u8 ↑((BitVec.ofInt 8 (IntKind.wrap .u8 ↑((BitVec.ofInt 8 x &&& BitVec.ofInt 8 63).toNat))) ||| BitVec.ofInt 8 64).toNat = x % 64 + 64 := by
  have key : ∀ n : Fin 256, IntKind.wrap .u8 ↑((BitVec.ofInt 8 (IntKind.wrap .u8 ↑((BitVec.ofInt 8 (n.val : Int) &&& BitVec.ofInt 8 63).toNat))) ||| BitVec.ofInt 8 64).toNat = (n.val : Int) % 64 + 64 := by decide +kernel
  have := key ⟨x.toNat, by omega⟩
  simpa [Int.toNat_of_nonneg h0] using this
theorem byte_at {l : List Int} (h : Kd.wf BY l) (i : Nat) : 0 ≤ l.getD i 0 ∧ l.getD i 0 ≤ 255 := by
  by_cases hi : i < l.length
  . have := h.2 l[i] (List.getElem_mem hi)
    rw [List.getD_eq_getElem?_getD, List.getElem?_eq_getElem hi]
    have h2 : InR .u8 l[i] := this
    simpa [InR, IntKind.min, IntKind.max, IntKind.signed, IntKind.bits] using h2
  . rw [List.getD_eq_getElem?_getD, List.getElem?_eq_none (by omega)]
    decide
abbrev wrZ (x : Int) : Int := IntKind.wrap IntKind.i64 x
abbrev wiZ (x : Int) : Prop := Kd.wf (Kd.int IntKind.i64) x
abbrev wbZ (x : Bool) : Prop := Kd.wf Kd.bool x
abbrev wyZ (x : List Int) : Prop := Kd.wf (Kd.sl (Kd.int IntKind.u8)) x
abbrev lnZ {α : Type} (x : List α) : Int := (↑(List.length x) : Int)
abbrev q11 := ((1 : Int) ≠ (1 : Int))
abbrev q20 := ((1 : Int) ≠ (1 : Int))
abbrev q8 := (0 : Int)
abbrev q17 := (decide q20 = false -> True)
abbrev q23 := ((0 : Int) ≠ (0 : Int))
abbrev q18 := (decide q23 = false -> True)
abbrev q22 := (decide ((0 : Int) ≠ (0 : Int)) == false)
abbrev q14 := (decide q23 = false -> q22 = true /\ True)
abbrev q15 := (decide q23 = false -> q22 = true)
abbrev q12 := (decide q20 = false -> (decide q20 == false) = true /\ ((!false) = true -> (2 : Nat) <= (65536 : Nat) /\ False) /\ ((!false) = false -> False))
abbrev q16 := (decide q20 = !false -> false = true)
abbrev q19 := ((↑(0 : Nat) : Int) ≠ (0 : Int))
abbrev q21 := (decide ((↑(0 : Nat) : Int) ≠ (0 : Int)) == false)
abbrev q13 := (decide q19 = false -> q21 = true /\ True)
abbrev q9 := (decide q19 = false -> q21 = true)
abbrev q10 := ((!false) = false -> False)
abbrev q0 := (decide q11 = false -> (decide q20 == false) = true /\ ((!false) = true -> (2 : Nat) <= (65536 : Nat) /\ (decide (wrZ (wrZ (q8 + (1 : Int)) + (1 : Int)) < (2 : Int)) = true ->
  (1 : Nat) <= (65536 : Nat) /\ ((!false) = true -> ((!false) = true -> q17 /\ (decide q11 = false -> (decide q20 == false) = true /\ ((!false) = true -> q18 /\ q14 /\ q14 /\ q15 /\ q18 /\
  q14 /\ q15 /\ q17 /\ q12 /\ q16) /\ ((!false) = false -> (decide q19 = false -> True) /\ q13 /\ q13 /\ q9 /\ q18 /\ q14 /\ q15 /\ q17 /\ q12 /\ q16)) /\ q16) /\ q10) /\ q10) /\ (decide (wrZ
  (wrZ (q8 + (1 : Int)) + (1 : Int)) < (2 : Int)) = false -> True /\ (∀ (y : Bool × Unit), (wbZ y.1 /\ True) -> y.1 = true -> y.1 = true) /\ True)) /\ q10)
abbrev q1 := (decide q19 = false -> q21 = true /\ True)
abbrev q2 := (decide q23 = false -> q22 = true /\ True)
abbrev q3 := (decide q23 = false -> q22 = true)
abbrev q4 := (decide q11 = !false -> false = true)
abbrev q5 := (decide q11 = false -> True)
abbrev q6 := (decide q23 = false -> True)
abbrev q7 := (decide q11 == false)
noncomputable def i91 : CallSem := vcFn (mkEnv ty [] [] [] [0, 2, 4]) {} Try.f91.ntmps Try.f91.results.toList (bodyOf Try.f91)
theorem i91_ok : CallOk Try.prog GL 91 i91 := inl_ok {} (mkEnv_ok (gl := GL) (l := []) (q := []) (d := []) _ tyOk (by kernel_rfl) trivial trivial trivial) (by kernel_rfl) (by kernel_rfl)
def t99 : Prop :=
  ∀ (x : List Int × Unit), (wyZ x.1 /\ True) -> List.length x.1 <= (1000000000 : Nat) -> (decide ((lnZ x.1) < (16 : Int)) = true -> ([], (270 : Int)) = OfD x.1) /\ (decide ((lnZ x.1) < (16 :
  Int)) = false -> (q8 <= (16 : Int) /\ (16 : Int) <= (lnZ x.1)) /\ ∀ (b : Bool), (b = true -> List.take (16 : Nat) x.1 = []) -> (b = true -> False) /\ (b = false -> (0 : Nat) < (1 : Nat) /\
  ((0 : Nat) + List.length (List.take (16 : Nat) x.1)) * (1 : Nat) <= (140737488355328 : Nat) /\ (0 : Nat) + List.length (List.take (16 : Nat) x.1) <= (9223372036854775807 : Nat) /\ (q8 <= q8
  /\ q8 < (lnZ ([] ++ List.take (16 : Nat) x.1))) /\ (q8 <= q8 /\ q8 < (lnZ ([] ++ List.take (16 : Nat) x.1))) /\ (List.set ([] ++ List.take (16 : Nat) x.1) (0 : Nat) (IntKind.wrap IntKind.u8
  (↑(BitVec.toNat (BitVec.ofInt (8 : Nat) (IntKind.wrap IntKind.u8 (↑(BitVec.toNat (BitVec.ofInt (8 : Nat) (List.getD ([] ++ List.take (16 : Nat) x.1) (0 : Nat) (Kd.dft (Kd.int IntKind.u8)))
  &&& BitVec.ofInt (8 : Nat) (63 : Int))) : Int)) ||| BitVec.ofInt (8 : Nat) (64 : Int))) : Int)), q8) = OfD x.1))
theorem e99 : t99 = Con.vc c_serial_Of GL (mkEnv ty [(91, i91)] [] [] [0, 2, 3, 4, 7]) {} Try.f99.ntmps Try.f99.results.toList (bodyOf Try.f99) := by kernel_rfl
theorem k99 : t99 := by
  unfold t99
  delta wyZ lnZ q8
  rintro ⟨x, _⟩ hx hp
  try dsimp +instances only [dft_int, dft_sl, dft_str]
  simp only [true_and, and_true, eq_self_iff_true, implies_true, reduceCtorEq, false_implies, true_implies, decide_eq_true_eq, decide_eq_false_iff_not, beq_self_eq_true, Bool.not_eq_true', ne_eq, Decidable.not_not, List.nil_append, List.length_singleton, List.length_cons, List.length_nil, Nat.zero_add, Nat.add_zero, Nat.mul_one, and_self, beq_iff_eq, Bool.not_true, Bool.not_false, Bool.not_eq_false', Bool.cond_false_right, Bool.and_eq_true, imp_self, Bool.not_eq_true, Bool.cond_true_left, Bool.or_eq_true]
  refine ⟨fun h => ?_, fun h => ?_⟩
  . rw [OfD, if_pos (by omega)]
  . have hl : (List.take 16 x).length = 16 := by simp; omega
    refine ⟨⟨by omega, by omega⟩, fun b hb => ⟨fun h1 => ?_, fun _ => ?_⟩⟩
    . have := hb h1
      rw [this] at hl
      simp at hl
    . have hb := byte_at hx.1 0
      have e0 : (List.take 16 x).getD 0 0 = x.getD 0 0 := by
        rw [List.getD_eq_getElem?_getD, List.getD_eq_getElem?_getD, List.getElem?_take]
        rfl
      refine ⟨by omega, by omega, by omega, ⟨by omega, by omega⟩, ⟨by omega, by omega⟩, ?_⟩
      rw [e0, bits _ hb.1 hb.2, OfD, if_neg (by omega)]
theorem h99 : c_serial_Of.ok Try.prog GL 99 := con_ok (H := {}) (mkEnv_ok (gl := GL) (l := [(91, i91)]) (q := []) (d := []) _ tyOk (by kernel_rfl) ⟨i91_ok, trivial⟩ trivial trivial) (by kernel_rfl) (by kernel_rfl) (Eq.mp e99 k99)
def t100 : Prop :=
  ∀ (x : Unit), True -> True -> true = true
theorem e100 : t100 = Con.vc c_law27_names GL (mkEnv ty [] [] [] [0]) {} Try.f100.ntmps Try.f100.results.toList (bodyOf Try.f100) := by kernel_rfl
theorem k100 : t100 := by
  unfold t100
  intro _ _ _
  rfl
theorem h100 : c_law27_names.ok Try.prog GL 100 := con_ok (H := {}) (mkEnv_ok (gl := GL) (l := []) (q := []) (d := []) _ tyOk (by kernel_rfl) trivial trivial trivial) (by kernel_rfl) (by kernel_rfl) (Eq.mp e100 k100)
def t46 : Prop :=
  ∀ (x : Unit), True -> True -> (q8 <= (16 : Int) /\ (16 : Int) <= (16 : Int)) /\ (↑(1 : Nat) : Int) * (16 : Int) <= (281474976710656 : Int) /\ (16 : Int) <= (9223372036854775807 : Int) /\
  (16 : Nat) <= (1000000000 : Nat) /\ (∀ (y : List Int × Int × Unit), (wyZ y.1 /\ wiZ y.2.1 /\ True) -> (y.1, y.2.1) = OfD (List.replicate (16 : Nat) (Kd.dft (Kd.int IntKind.u8))) -> (decide
  (y.2.1 = q8) = true -> True) /\ (decide (y.2.1 = q8) = true -> (decide (y.2.1 = q8) == true) = true /\ True) /\ (decide (y.2.1 = q8) = true -> (decide (y.2.1 = q8) == true) = true /\ True)
  /\ (decide (y.2.1 = q8) = true -> (decide (y.2.1 = q8) == true) = true) /\ ((bif decide (y.2.1 = q8) then decide ((lnZ y.1) = (16 : Int)) else false) = true -> True /\ (∀ (y : Bool × Unit),
  (wbZ y.1 /\ True) -> y.1 = true -> y.1 = true) /\ True) /\ ((bif decide (y.2.1 = q8) then decide ((lnZ y.1) = (16 : Int)) else false) = !true -> false = true)) /\ True
theorem e46 : t46 = Con.vc c_law27_works GL (mkEnv ty [(99, conSem c_serial_Of), (100, conSem c_law27_names)] [] [] [0, 1, 2]) {} Try.f46.ntmps Try.f46.results.toList (bodyOf Try.f46) := by kernel_rfl
theorem k46 : t46 := by
  unfold t46
  delta q8 wyZ wiZ lnZ wbZ
  rintro _ hx hp
  try dsimp +instances only [dft_int, dft_sl, dft_str]
  simp only [true_and, and_true, eq_self_iff_true, implies_true, reduceCtorEq, false_implies, true_implies, decide_eq_true_eq, decide_eq_false_iff_not, beq_self_eq_true, Bool.not_eq_true', ne_eq, Decidable.not_not, List.nil_append, List.length_singleton, List.length_cons, List.length_nil, Nat.zero_add, Nat.add_zero, Nat.mul_one, and_self, beq_iff_eq, Bool.not_true, Bool.not_false, Bool.not_eq_false', Bool.cond_false_right, Bool.and_eq_true, imp_self, Bool.not_eq_true, Bool.cond_true_left, Bool.or_eq_true]
  refine ⟨⟨by decide, by decide⟩, by decide, by decide, by decide, ?_⟩
  rintro ⟨y, e, _⟩ _ h
  have h1 : y.length = 16 ∧ e = 0 := by
    have e1 : y = (OfD (List.replicate 16 0)).1 := congrArg Prod.fst h
    have e2 : e = (OfD (List.replicate 16 0)).2 := congrArg Prod.snd h
    rw [e1, e2]
    decide
  simp [h1.1, h1.2]
theorem h46 : c_law27_works.ok Try.prog GL 46 := con_ok (H := {}) (mkEnv_ok (gl := GL) (l := [(99, conSem c_serial_Of), (100, conSem c_law27_names)]) (q := []) (d := []) _ tyOk (by kernel_rfl) ⟨h99.call, h100.call, trivial⟩ trivial trivial) (by kernel_rfl) (by kernel_rfl) (Eq.mp e46 k46)
noncomputable def i42 : CallSem := vcFn (mkEnv ty [] [] [] [0, 1, 2]) {} Try.f42.ntmps Try.f42.results.toList (bodyOf Try.f42)
theorem i42_ok : CallOk Try.prog GL 42 i42 := inl_ok {} (mkEnv_ok (gl := GL) (l := []) (q := []) (d := []) _ tyOk (by kernel_rfl) trivial trivial trivial) (by kernel_rfl) (by kernel_rfl)
noncomputable def i92 : CallSem := vcFn (mkEnv ty [] [] [] [0, 2]) {} Try.f92.ntmps Try.f92.results.toList (bodyOf Try.f92)
theorem i92_ok : CallOk Try.prog GL 92 i92 := inl_ok {} (mkEnv_ok (gl := GL) (l := []) (q := []) (d := []) _ tyOk (by kernel_rfl) trivial trivial trivial) (by kernel_rfl) (by kernel_rfl)
noncomputable def i41 : CallSem := vcFn (mkEnv ty [(92, i92)] [] [] [0, 1, 4, 5, 6, 7, 8, 9, 10, 13, 33]) {} Try.f41.ntmps Try.f41.results.toList (bodyOf Try.f41)
theorem i41_ok : CallOk Try.prog GL 41 i41 := inl_ok {} (mkEnv_ok (gl := GL) (l := [(92, i92)]) (q := []) (d := []) _ tyOk (by kernel_rfl) ⟨i92_ok, trivial⟩ trivial trivial) (by kernel_rfl) (by kernel_rfl)
noncomputable def i43 : CallSem := vcFn (mkEnv ty [(92, i92)] [] [] [0, 1, 4, 6]) {} Try.f43.ntmps Try.f43.results.toList (bodyOf Try.f43)
theorem i43_ok : CallOk Try.prog GL 43 i43 := inl_ok {} (mkEnv_ok (gl := GL) (l := [(92, i92)]) (q := []) (d := []) _ tyOk (by kernel_rfl) ⟨i92_ok, trivial⟩ trivial trivial) (by kernel_rfl) (by kernel_rfl)
noncomputable def i44 : CallSem := vcFn (mkEnv ty [(92, i92)] [] [] [0, 2, 4]) {} Try.f44.ntmps Try.f44.results.toList (bodyOf Try.f44)
theorem i44_ok : CallOk Try.prog GL 44 i44 := inl_ok {} (mkEnv_ok (gl := GL) (l := [(92, i92)]) (q := []) (d := []) _ tyOk (by kernel_rfl) ⟨i92_ok, trivial⟩ trivial trivial) (by kernel_rfl) (by kernel_rfl)
noncomputable def i45 : CallSem := vcFn (mkEnv ty [(92, i92)] [] [] [0, 2, 4]) {} Try.f45.ntmps Try.f45.results.toList (bodyOf Try.f45)
theorem i45_ok : CallOk Try.prog GL 45 i45 := inl_ok {} (mkEnv_ok (gl := GL) (l := [(92, i92)]) (q := []) (d := []) _ tyOk (by kernel_rfl) ⟨i92_ok, trivial⟩ trivial trivial) (by kernel_rfl) (by kernel_rfl)
def t7 : Prop :=
  ∀ (x : List (List Int) × Unit), (Kd.wf (Kd.sl (Kd.sl (Kd.int IntKind.u8))) x.1 /\ True) -> ABulk [AK.dat (Kd.sl (Kd.sl (Kd.int IntKind.u8)))] x <= (1048576 : Nat) -> (decide (q8 < (2 :
  Int)) = true -> (1 : Nat) <= (65536 : Nat) /\ q5 /\ (decide q11 = false -> q7 = true /\ q6 /\ q2 /\ q2 /\ q3 /\ q6 /\ q2 /\ q3 /\ q5 /\ (decide q11 = false -> q7 = true /\ (2 : Nat) <=
  (65536 : Nat) /\ (decide (wrZ (q8 + (1 : Int)) < (2 : Int)) = true -> (1 : Nat) <= (65536 : Nat) /\ ((!false) = true -> ((!false) = true -> q5 /\ (decide q11 = false -> q7 = true /\
  ((!false) = true -> q6 /\ q2 /\ q2 /\ q3 /\ q6 /\ q2 /\ q3 /\ q5 /\ q0 /\ q4) /\ ((!false) = false -> (decide q19 = false -> True) /\ q1 /\ q1 /\ q9 /\ q6 /\ q2 /\ q3 /\ q5 /\ q0 /\ q4)) /\
  q4) /\ q10) /\ q10) /\ (decide (wrZ (q8 + (1 : Int)) < (2 : Int)) = false -> True /\ (∀ (y : Bool × Unit), (wbZ y.1 /\ True) -> y.1 = true -> y.1 = true) /\ True)) /\ q4) /\ q4) /\ (decide
  (q8 < (2 : Int)) = false -> True /\ (∀ (y : Bool × Unit), (wbZ y.1 /\ True) -> y.1 = true -> y.1 = true) /\ True)
theorem e7 : t7 = Con.vc c_law27_SerialNobody GL (mkEnv ty [(42, i42), (41, i41), (43, i43), (44, i44), (45, i45), (46, conSem c_law27_works)] [] [] [0, 2, 3, 4, 5, 6, 8, 39]) {rounds := [(3,3)]} Try.f7.ntmps Try.f7.results.toList (bodyOf Try.f7) := by kernel_rfl
theorem k7 : t7 := by
  unfold t7
  delta q8 q5 q11 q7 q6 q2 q3 wrZ q0 q4 q19 q1 q9 q10 wbZ q23 q22 q20 q17 q18 q14 q15 q12 q16 q13 q21
  rintro ⟨x, _⟩ hx hp
  try dsimp +instances only [dft_int, dft_sl, dft_str]
  simp only [true_and, and_true, eq_self_iff_true, implies_true, reduceCtorEq, false_implies, true_implies, decide_eq_true_eq, decide_eq_false_iff_not, beq_self_eq_true, Bool.not_eq_true', ne_eq, Decidable.not_not, List.nil_append, List.length_singleton, List.length_cons, List.length_nil, Nat.zero_add, Nat.add_zero, Nat.mul_one, and_self, beq_iff_eq, Bool.not_true, Bool.not_false, Bool.not_eq_false', Bool.cond_false_right, Bool.and_eq_true, imp_self, Bool.not_eq_true, Bool.cond_true_left, Bool.or_eq_true]
  intro _
  exact ⟨by decide, ⟨⟨by decide, fun _ => ⟨by decide, ⟨⟨by decide, fun h => absurd h (by decide)⟩, fun h => absurd trivial h⟩, fun h => absurd trivial h⟩⟩, fun h => absurd trivial h⟩, fun h => absurd trivial h⟩
theorem h7 : c_law27_SerialNobody.ok Try.prog GL 7 := con_ok (H := {rounds := [(3,3)]}) (mkEnv_ok (gl := GL) (l := [(42, i42), (41, i41), (43, i43), (44, i44), (45, i45), (46, conSem c_law27_works)]) (q := []) (d := []) _ tyOk (by kernel_rfl) ⟨i42_ok, i41_ok, i43_ok, i44_ok, i45_ok, h46.call, trivial⟩ trivial trivial) (by kernel_rfl) (by kernel_rfl) (Eq.mp e7 k7)
end Go.Proofs.Ytbdfeddakniaeaa
end
