/- Texts of a verified walk, led together: QHostA, QHostW, QHostmA, QHostmW. -/
import Derived.Test.YtbdfeddakniaeaaDoorZW01
import Derived.Test.YtbdfeddakniaeaaDoorZV07
set_option linter.unusedVariables false
set_option linter.unusedSimpArgs false
section
namespace Go.Proofs.YtbdfeddakniaeaaDoor
open Go Go.Vc Go.Pl Go.Proofs
def c_host_letter : Con := { args := [.dat U8], res := [.dat .bool], pre := fun _ => True, post := fun x y => y.1 = letterD x.1 }
def c_host_digit : Con := { args := [.dat U8], res := [.dat .bool], pre := fun _ => True, post := fun x y => y.1 = digitD x.1 }
def c_host_label_1 : Con := { args := [.dat U8], res := [.dat .bool], pre := fun _ => True, post := fun x y => y.1 = lcharD x.1 }
def c_host_label : Con := { args := [.dat .str], res := [.dat .bool], pre := fun x => x.1.length ≤ 1000000000, post := fun x y => y.1 = labelD x.1 }
def c_host_DNS : Con := { args := [.dat .str], res := [.dat .bool], pre := fun x => x.1.length ≤ 1000000000, post := fun x y => y.1 = dnsD x.1 }
def c_host_Wild : Con := { args := [.dat .str], res := [.dat .bool], pre := fun x => x.1.length ≤ 1000000000, post := fun x y => y.1 = wildD x.1 }
end Go.Proofs.YtbdfeddakniaeaaDoor
end
section
namespace Go.Proofs.YtbdfeddakniaeaaDoor
open Go Go.Vc Go.Pl Go.Proofs
set_option linter.unusedVariables false
set_option linter.unusedSimpArgs false
abbrev q3 := (List Int × Unit)
abbrev q4 := ((Bool × Unit) × (List Int × Unit) × (List Int × Unit) × Unit)
abbrev q38 (p0 : Int × Unit) := (bif decide ((97 : Int) <= p0.1) then decide (p0.1 <= (122 : Int)) else false)
abbrev q14 (p0 : Int × Unit) := ((q38 p0) == false && (q38 p0) == false && decide ((65 : Int) <= p0.1) == true)
abbrev q15 (p0 : Int × Unit) := ((q38 p0) == false && (q38 p0) == false)
abbrev q16 (p0 : Int × Unit) := (bif decide ((97 : Int) <= p0.1) then decide (p0.1 <= (122 : Int)) else false)
abbrev q39 (p0 : q3) := (bif bif decide (p0.1 = bs { data := #[] }) then true else decide ((63 : Int) < (lnZ p0.1)) then true else decide (List.getD p0.1 (0 : Nat) (0 : Int) = (45 : Int)))
abbrev q17 (p0 : q3) := ((q39 p0) = false -> ((q39 p0) == false) = true /\ True)
abbrev q36 (p0 : q3) := (p0.1 = bs { data := #[] })
abbrev q18 (p0 : q3) := (bif bif bif decide (q36 p0) then true else decide ((63 : Int) < (lnZ p0.1)) then true else decide (List.getD p0.1 (0 : Nat) (0 : Int) = (45 : Int)) then true else
  decide (List.getD p0.1 (Int.toNat (wrZ ((lnZ p0.1) - (1 : Int)))) (0 : Int) = (45 : Int)))
abbrev q19 (p0 : q3) := ((q39 p0) = false -> True)
abbrev q20 (p0 : q3) := ((q39 p0) == false)
abbrev q21 (p0 : q3) := (bif bif decide (q36 p0) then true else decide ((63 : Int) < (lnZ p0.1)) then true else decide (List.getD p0.1 (0 : Nat) (0 : Int) = (45 : Int)))
abbrev q22 (p0 : q3) := (decide (q36 p0) = false -> (decide (q36 p0) == false) = true /\ True)
abbrev q23 (p0 : q3) := ((bif decide (q36 p0) then true else decide ((63 : Int) < (lnZ p0.1))) == false)
abbrev q24 (p0 : q3) := (bif decide (q36 p0) then true else decide ((63 : Int) < (lnZ p0.1)))
abbrev q25 := (1000000000 : Nat)
abbrev q26 (p0 : Bool × List Int × List Int × Unit) := (cutD (List.getD (bs { data := #[(46 : UInt8)] }) (0 : Nat) (0 : Int)) p0.2.1)
abbrev q27 (p0 : q3) := (cutD (List.getD (bs { data := #[(46 : UInt8)] }) (0 : Nat) (0 : Int)) p0.1)
abbrev q28 := (bs { data := #[(46 : UInt8)] })
abbrev q29 (p0 : List Int × Bool × Unit) (p1 : q3) := (bif p0.2.1 then decide ((lnZ p1.1) <= (253 : Int)) else false)
abbrev q30 := (bs { data := #[(42 : UInt8), (46 : UInt8)] })
def t113 : Prop :=
  ∀ (x : Int × Unit), (Kd.wf (Kd.int IntKind.u8) x.1 /\ True) -> True -> (decide ((97 : Int) <= x.1) = true -> True) /\ (decide ((97 : Int) <= x.1) = true -> (decide ((97 : Int) <= x.1) ==
  true) = true /\ True) /\ (decide ((97 : Int) <= x.1) = true -> (decide ((97 : Int) <= x.1) == true) = true) /\ ((q16 x) = false -> True) /\ ((q16 x) = false -> ((q16 x) == false) = true /\
  True) /\ ((q16 x) = false -> True) /\ ((q15 x) = true -> decide ((65 : Int) <= x.1) = true -> True) /\ ((q15 x) = true -> decide ((65 : Int) <= x.1) = true -> (q14 x) = true /\ True) /\
  ((q16 x) = false -> (q15 x) = true /\ (decide ((65 : Int) <= x.1) = true -> (q14 x) = true) /\ True) /\ ((q16 x) = false -> ((q16 x) == false) = true) /\ (bif bif decide ((97 : Int) <= x.1)
  then decide (x.1 <= (122 : Int)) else false then true else bif decide ((65 : Int) <= x.1) then decide (x.1 <= (90 : Int)) else false) = letterD x.1
theorem e113 : t113 = Con.vc c_host_letter GL (mkEnv ty [] [] [] [0, 2]) {} Tryd.f113.ntmps Tryd.f113.results.toList (bodyOf Tryd.f113) := by kernel_rfl
theorem k113 : t113 := by
  unfold t113
  delta q16 q15 q14 q38
  rintro ⟨l, _⟩ hx hp
  try dsimp +instances only [dft_int, dft_sl, dft_str]
  simp only [true_and, and_true, eq_self_iff_true, implies_true, reduceCtorEq, false_implies, true_implies, decide_eq_true_eq, decide_eq_false_iff_not, beq_self_eq_true, Bool.not_eq_true', ne_eq, Decidable.not_not, List.nil_append, List.length_singleton, List.length_cons, List.length_nil, Nat.zero_add, Nat.add_zero, Nat.mul_one, and_self, beq_iff_eq, Bool.not_true, Bool.not_false, Bool.not_eq_false', Bool.cond_false_right, Bool.and_eq_true, imp_self, Bool.not_eq_true, Bool.cond_true_left, Bool.or_eq_true]
  refine ⟨fun h h2 => ⟨h, h2⟩, fun h => ⟨h, fun h2 => ⟨h, h2⟩⟩, ?_⟩
  rw [Bool.eq_iff_iff, letterD]
  simp only [Bool.or_eq_true, Bool.and_eq_true, decide_eq_true_eq]
theorem h113 : c_host_letter.ok Tryd.prog GL 113 := con_ok (H := {}) (mkEnv_ok (gl := GL) (l := []) (q := []) (d := []) _ tyOk (by kernel_rfl) trivial trivial trivial) (by kernel_rfl) (by kernel_rfl) (Eq.mp e113 k113)
def t56 : Prop :=
  ∀ (x : Int × Unit), (Kd.wf (Kd.int IntKind.u8) x.1 /\ True) -> True -> (decide ((48 : Int) <= x.1) = true -> True) /\ (decide ((48 : Int) <= x.1) = true -> (decide ((48 : Int) <= x.1) ==
  true) = true /\ True) /\ (decide ((48 : Int) <= x.1) = true -> (decide ((48 : Int) <= x.1) == true) = true) /\ (bif decide ((48 : Int) <= x.1) then decide (x.1 <= (57 : Int)) else false) =
  digitD x.1
theorem e56 : t56 = Con.vc c_host_digit GL (mkEnv ty [] [] [] [0, 2]) {} Tryd.f56.ntmps Tryd.f56.results.toList (bodyOf Tryd.f56) := by kernel_rfl
theorem k56 : t56 := by
  unfold t56
  rintro ⟨l, _⟩ hx hp
  try dsimp +instances only [dft_int, dft_sl, dft_str]
  simp only [true_and, and_true, eq_self_iff_true, implies_true, reduceCtorEq, false_implies, true_implies, decide_eq_true_eq, decide_eq_false_iff_not, beq_self_eq_true, Bool.not_eq_true', ne_eq, Decidable.not_not, List.nil_append, List.length_singleton, List.length_cons, List.length_nil, Nat.zero_add, Nat.add_zero, Nat.mul_one, and_self, beq_iff_eq, Bool.not_true, Bool.not_false, Bool.not_eq_false', Bool.cond_false_right, Bool.and_eq_true, imp_self, Bool.not_eq_true, Bool.cond_true_left, Bool.or_eq_true]
  rw [Bool.eq_iff_iff, digitD]
  simp only [Bool.and_eq_true, decide_eq_true_eq]
theorem h56 : c_host_digit.ok Tryd.prog GL 56 := con_ok (H := {}) (mkEnv_ok (gl := GL) (l := []) (q := []) (d := []) _ tyOk (by kernel_rfl) trivial trivial trivial) (by kernel_rfl) (by kernel_rfl) (Eq.mp e56 k56)
def t112 : Prop :=
  ∀ (x : Int × Unit), (Kd.wf (Kd.int IntKind.u8) x.1 /\ True) -> True -> True /\ (∀ (y : q2), (q13 y) -> y.1 = letterD x.1 -> (y.1 = false -> True) /\ (y.1 = false -> (y.1 == false) = true /\
  True /\ (∀ (y : q2), (q13 y) -> y.1 = digitD x.1 -> (y.1 = false -> True) /\ (y.1 = false -> (y.1 == false) = true /\ True) /\ (y.1 = false -> (y.1 == false) = true) /\ (bif y.1 then true
  else decide (x.1 = (45 : Int))) = lcharD x.1) /\ True) /\ (y.1 = !false -> true = lcharD x.1)) /\ True
theorem e112 : t112 = Con.vc c_host_label_1 GL (mkEnv ty [(113, conSem c_host_letter), (56, conSem c_host_digit)] [] [] [0, 2]) {} Tryd.f112.ntmps Tryd.f112.results.toList (bodyOf Tryd.f112) := by kernel_rfl
theorem k112 : t112 := by
  unfold t112
  delta q2 q13 wbZ
  rintro ⟨l, _⟩ hx hp
  try dsimp +instances only [dft_int, dft_sl, dft_str]
  simp only [true_and, and_true, eq_self_iff_true, implies_true, reduceCtorEq, false_implies, true_implies, decide_eq_true_eq, decide_eq_false_iff_not, beq_self_eq_true, Bool.not_eq_true', ne_eq, Decidable.not_not, List.nil_append, List.length_singleton, List.length_cons, List.length_nil, Nat.zero_add, Nat.add_zero, Nat.mul_one, and_self, beq_iff_eq, Bool.not_true, Bool.not_false, Bool.not_eq_false', Bool.cond_false_right, Bool.and_eq_true, imp_self, Bool.not_eq_true, Bool.cond_true_left, Bool.or_eq_true]
  rintro ⟨a, _⟩ _ ea
  simp only at ea ⊢
  subst ea
  refine ⟨fun h => ⟨h, ?_⟩, fun h => by rw [lcharD, h]; rfl⟩
  rintro ⟨b, _⟩ _ eb
  simp only at eb ⊢
  rw [lcharD, h, eb]; rfl
theorem h112 : c_host_label_1.ok Tryd.prog GL 112 := con_ok (H := {}) (mkEnv_ok (gl := GL) (l := [(113, conSem c_host_letter), (56, conSem c_host_digit)]) (q := []) (d := []) _ tyOk (by kernel_rfl) ⟨h113.call, h56.call, trivial⟩ trivial trivial) (by kernel_rfl) (by kernel_rfl) (Eq.mp e112 k112)
noncomputable def i55 : CallSem := vcFn (mkEnv ty [(112, conSem c_host_label_1), (56, conSem c_host_digit)] [] [] [0, 1, 4, 5, 7, 8, 9, 16]) {} Tryd.f55.ntmps Tryd.f55.results.toList (bodyOf Tryd.f55)
theorem i55_ok : CallOk Tryd.prog GL 55 i55 := inl_ok {} (mkEnv_ok (gl := GL) (l := [(112, conSem c_host_label_1), (56, conSem c_host_digit)]) (q := []) (d := []) _ tyOk (by kernel_rfl) ⟨h112.call, h56.call, trivial⟩ trivial trivial) (by kernel_rfl) (by kernel_rfl)
def t54 : Prop :=
  ∀ (x : q3), (wsZ x.1 /\ True) -> List.length x.1 <= q25 -> (decide (q36 x) = false -> True) /\ (q22 x) /\ (q22 x) /\ (decide (q36 x) = false -> (decide (q36 x) == false) = true) /\ ((q24 x)
  = false -> True) /\ ((q24 x) = false -> (q23 x) = true /\ (q7 <= q7 /\ q7 < (lnZ x.1)) /\ True) /\ ((q24 x) = false -> (q23 x) = true /\ True) /\ ((q24 x) = false -> (q23 x) = true) /\ (q19
  x) /\ (q19 x) /\ (q17 x) /\ (q17 x) /\ ((q21 x) = false -> (q20 x) = true /\ (q20 x) = true /\ (q7 <= wrZ ((lnZ x.1) - (1 : Int)) /\ wrZ ((lnZ x.1) - (1 : Int)) < (lnZ x.1)) /\ True) /\
  (q17 x) /\ ((q21 x) = false -> (q20 x) = true) /\ ((q18 x) = true -> false = labelD x.1) /\ ((q18 x) = false -> ∃ (I : Int × Bool × Unit -> Unit -> Prop), ∃ (μ : Int × Bool × Unit -> Unit
  -> Nat), ((lnZ x.1) = (lnZ x.1) /\ x.1 = x.1 /\ x.1 = x.1 /\ Value.bool false = Value.bool false /\ Value.bool false = Value.bool false /\ x.1 = x.1 /\ I (q7, false, ()) ()) /\ ∀ (y : Int ×
  Bool × Unit) (z : Unit), (wiZ y.1 /\ wbZ y.2.1 /\ True) -> True -> I y z -> (decide (y.1 < (lnZ x.1)) = true -> (q7 <= y.1 /\ y.1 < (lnZ x.1)) /\ True /\ (∀ (y_1 : q2), (q13 y_1) -> y_1.1 =
  lcharD (List.getD x.1 (Int.toNat y.1) q7) -> ((!y_1.1) = true -> false = labelD x.1) /\ ((!y_1.1) = false -> (lnZ x.1) = (lnZ x.1) /\ x.1 = x.1 /\ x.1 = x.1 /\ Value.bool false = Value.bool
  false /\ Value.bool false = Value.bool false /\ x.1 = x.1 /\ I (wrZ (y.1 + (1 : Int)), y.2.1, ()) () /\ μ (wrZ (y.1 + (1 : Int)), y.2.1, ()) () < μ y z)) /\ True) /\ (decide (y.1 < (lnZ
  x.1)) = false -> true = labelD x.1))
theorem e54 : t54 = Con.vc c_host_label GL (mkEnv ty [(55, i55)] [] [] [0, 2, 22]) {} Tryd.f54.ntmps Tryd.f54.results.toList (bodyOf Tryd.f54) := by kernel_rfl
theorem k54 : t54 := by
  unfold t54
  delta q3 wsZ q25 q36 q22 q24 q23 q7 lnZ q19 q17 q21 q20 wrZ q18 wiZ wbZ q2 q13 q39
  rintro ⟨l, _⟩ hx hp
  have hp : l.length ≤ 1000000000 := hp
  try dsimp +instances only [dft_int, dft_sl, dft_str]
  simp only [true_and, and_true, eq_self_iff_true, implies_true, reduceCtorEq, false_implies, true_implies, decide_eq_true_eq, decide_eq_false_iff_not, beq_self_eq_true, Bool.not_eq_true', ne_eq, Decidable.not_not, List.nil_append, List.length_singleton, List.length_cons, List.length_nil, Nat.zero_add, Nat.add_zero, Nat.mul_one, and_self, beq_iff_eq, Bool.not_true, Bool.not_false, Bool.not_eq_false', Bool.cond_false_right, Bool.and_eq_true, imp_self, Bool.not_eq_true, Bool.cond_true_left, Bool.or_eq_true]
  rw [bs_nil]
  have hl0 : l = [] ↔ l.length = 0 := ⟨fun h => by rw [h]; rfl, List.eq_nil_of_length_eq_zero⟩
  have hw : IntKind.wrap .i64 ((l.length : Int) - 1) = l.length - 1 := wrapK _ (by omega) (by omega)
  have ht : ((l.length : Int) - 1).toNat = l.length - 1 := by omega
  rw [hw, ht]
  simp only [hl0, Bool.or_eq_false_iff, decide_eq_false_iff_not]
  refine ⟨fun h => ⟨h, by omega, by omega⟩, fun h => ⟨h, h, by omega, by omega⟩, fun h => ?_, fun h => ?_⟩
  . rw [labelD, decide_eq_false (fun hh => by rw [Ne, hl0] at hh; omega)]; rfl
  . have hl : labelD l = l.all lcharD := by
      rw [labelD, decide_eq_true (by rw [Ne, hl0]; omega)]; rfl
    rw [hl]
    refine ⟨fun y _ => 0 ≤ y.1 ∧ y.1 ≤ l.length ∧ ∀ j, j < y.1.toNat → lcharD (l.getD j 0) = true, fun y _ => ((l.length : Int) - y.1).toNat, ⟨by decide, by omega, fun j hj => by simp at hj⟩, ?_⟩
    rintro ⟨i, b, _⟩ _ _ ⟨i0, i1, i2⟩
    simp only at i0 i1 i2 ⊢
    have hw1 : IntKind.wrap .i64 (i + 1) = i + 1 := wrapK _ (by omega) (by omega)
    rw [hw1]
    refine ⟨fun hlt => ⟨⟨i0, hlt⟩, ?_⟩, fun hge => (all_get _ _ (fun j hj => i2 j (by omega))).symm⟩
    rintro ⟨c, _⟩ _ ec
    simp only at ec ⊢
    refine ⟨fun h => (all_not _ _ i.toNat (by omega) (ec.symm.trans h)).symm, fun h => ⟨⟨by omega, by omega, fun j hj => ?_⟩, by omega⟩⟩
    by_cases hji : j < i.toNat
    . exact i2 j hji
    . rw [show j = i.toNat by omega, ← ec]; exact h
theorem h54 : c_host_label.ok Tryd.prog GL 54 := con_ok (H := {}) (mkEnv_ok (gl := GL) (l := [(55, i55)]) (q := []) (d := []) _ tyOk (by kernel_rfl) ⟨i55_ok, trivial⟩ trivial trivial) (by kernel_rfl) (by kernel_rfl) (Eq.mp e54 k54)
noncomputable def i111 : CallSem → CallSem := vcSeq (mkEnv ty [(47, conSem c_strings_Cut)] [] [] [0, 1, 3, 4, 5, 17]) {} Tryd.f111.ntmps Tryd.f111.results.toList (bodyOf Tryd.f111)
theorem i111_ok : SeqOk Tryd.prog GL 111 i111 := seq_ok {} (mkEnv_ok (gl := GL) (l := [(47, conSem c_strings_Cut)]) (q := []) (d := []) _ tyOk (by kernel_rfl) ⟨h47.call, trivial⟩ trivial trivial) (by kernel_rfl) (by kernel_rfl)
noncomputable def i53 : CallSem := vcFn (mkEnv ty [] [] [] [0, 1, 2]) {} Tryd.f53.ntmps Tryd.f53.results.toList (bodyOf Tryd.f53)
theorem i53_ok : CallOk Tryd.prog GL 53 i53 := inl_ok {} (mkEnv_ok (gl := GL) (l := []) (q := []) (d := []) _ tyOk (by kernel_rfl) trivial trivial trivial) (by kernel_rfl) (by kernel_rfl)
def t19 : Prop :=
  ∀ (x : q3), (wsZ x.1 /\ True) -> List.length x.1 <= q25 -> (1 : Nat) <= (65536 : Nat) /\ (decide ((253 : Int) < (lnZ x.1)) = true -> false = dnsD x.1) /\ (decide ((253 : Int) < (lnZ x.1)) =
  false -> (1 : Nat) <= (65536 : Nat) /\ List.length [SV.dat Kd.str x.1] <= (65536 : Nat) /\ (List.length x.1 < q6 /\ List.length q28 = (1 : Nat)) /\ (∀ (y : q1), (wsZ y.1 /\ wsZ y.2.1 /\ wbZ
  y.2.2.1 /\ True) -> y.1 = (q27 x).1 /\ y.2.1 = (q27 x).2.1 /\ y.2.2.1 = (q27 x).2.2 -> ∃ (I : Bool × List Int × List Int × Unit -> (Bool × Unit) × (List Int × Unit) × (List Int × Unit) ×
  Unit -> Prop), ∃ (μ : Bool × List Int × List Int × Unit -> (Bool × Unit) × (List Int × Unit) × (List Int × Unit) × Unit -> Nat), (Value.bool false = Value.bool false /\ x.1 = x.1 /\ I
  (y.2.2.1, y.2.1, y.1, ()) ((false, ()), (bs { data := #[] }, ()), (x.1, ()), ())) /\ ∀ (y : Bool × List Int × List Int × Unit) (z : q4), (wbZ y.1 /\ wsZ y.2.1 /\ wsZ y.2.2.1 /\ True) ->
  (wbZ z.1.1 /\ True) /\ (wsZ z.2.1.1 /\ True) /\ (wsZ z.2.2.1.1 /\ True) /\ True -> I y z -> List.length y.2.2.1 <= q25 /\ (∀ (y_1 : q2), (q13 y_1) -> y_1.1 = labelD y.2.2.1 -> ((!y_1.1) =
  true -> false = dnsD x.1) /\ ((!y_1.1) = false -> (y.1 = true -> (List.length y.2.1 < q6 /\ List.length q28 = (1 : Nat)) /\ (∀ (y_2 : q1), (wsZ y_2.1 /\ wsZ y_2.2.1 /\ wbZ y_2.2.2.1 /\
  True) -> y_2.1 = (q26 y).1 /\ y_2.2.1 = (q26 y).2.1 /\ y_2.2.2.1 = (q26 y).2.2 -> Value.bool false = Value.bool false /\ x.1 = x.1 /\ I (y_2.2.2.1, y_2.2.1, y_2.1, ()) ((z.1.1, ()),
  (y.2.2.1, ()), (z.2.2.1.1, ()), ()) /\ μ (y_2.2.2.1, y_2.2.1, y_2.1, ()) ((z.1.1, ()), (y.2.2.1, ()), (z.2.2.1.1, ()), ()) < μ y z) /\ True) /\ (y.1 = false -> ∃ (I : Int × Bool × Unit ->
  (Bool × Unit) × (List Int × Unit) × (List Int × Unit) × Unit -> Prop), ∃ (μ : Int × Bool × Unit -> (Bool × Unit) × (List Int × Unit) × (List Int × Unit) × Unit -> Nat), ((lnZ y.2.2.1) =
  (lnZ y.2.2.1) /\ y.2.2.1 = y.2.2.1 /\ y.2.2.1 = y.2.2.1 /\ Value.bool false = Value.bool false /\ x.1 = x.1 /\ I (q7, false, ()) ((z.1.1, ()), (y.2.2.1, ()), (z.2.2.1.1, ()), ())) /\ ∀ (y_2
  : Int × Bool × Unit) (z : q4), (wiZ y_2.1 /\ wbZ y_2.2.1 /\ True) -> (wbZ z.1.1 /\ True) /\ (wsZ z.2.1.1 /\ True) /\ (wsZ z.2.2.1.1 /\ True) /\ True -> I y_2 z -> (decide (y_2.1 < (lnZ
  y.2.2.1)) = true -> (q7 <= y_2.1 /\ y_2.1 < (lnZ y.2.2.1)) /\ True /\ (∀ (y_3 : q2), (q13 y_3) -> y_3.1 = digitD (List.getD y.2.2.1 (Int.toNat y_2.1) q7) -> ((!y_3.1) = true -> (!false) =
  dnsD x.1) /\ ((!y_3.1) = false -> (lnZ y.2.2.1) = (lnZ y.2.2.1) /\ y.2.2.1 = y.2.2.1 /\ y.2.2.1 = y.2.2.1 /\ Value.bool false = Value.bool false /\ x.1 = x.1 /\ I (wrZ (y_2.1 + (1 : Int)),
  y_2.2.1, ()) ((z.1.1, ()), (z.2.1.1, ()), (z.2.2.1.1, ()), ()) /\ μ (wrZ (y_2.1 + (1 : Int)), y_2.2.1, ()) ((z.1.1, ()), (z.2.1.1, ()), (z.2.2.1.1, ()), ()) < μ y_2 z)) /\ True) /\ (decide
  (y_2.1 < (lnZ y.2.2.1)) = false -> (!true) = dnsD x.1)))) /\ True) /\ True)
theorem e19 : t19 = Con.vc c_host_DNS GL (mkEnv ty [(53, i53), (54, conSem c_host_label), (55, i55)] [(111, i111)] [] [0, 2, 3, 4, 7, 9, 10, 13]) {} Tryd.f19.ntmps Tryd.f19.results.toList (bodyOf Tryd.f19) := by kernel_rfl
theorem k19 : t19 := by
  unfold t19
  delta q3 wsZ q25 lnZ q6 q28 q1 wbZ q27 q4 q2 q13 q26 q7 wiZ wrZ
  rintro ⟨l, _⟩ hx hp
  have hp : l.length ≤ 1000000000 := hp
  try dsimp +instances only [dft_int, dft_sl, dft_str]
  simp only [true_and, and_true, eq_self_iff_true, implies_true, reduceCtorEq, false_implies, true_implies, decide_eq_true_eq, decide_eq_false_iff_not, beq_self_eq_true, Bool.not_eq_true', ne_eq, Decidable.not_not, List.nil_append, List.length_singleton, List.length_cons, List.length_nil, Nat.zero_add, Nat.add_zero, Nat.mul_one, and_self, beq_iff_eq, Bool.not_true, Bool.not_false, Bool.not_eq_false', Bool.cond_false_right, Bool.and_eq_true, imp_self, Bool.not_eq_true, Bool.cond_true_left, Bool.or_eq_true]
  have hb : bs { data := #[46] } = [46] := by decide
  have hd : ([46] : List Int).getD 0 0 = 46 := rfl
  rw [hb, hd, bs_nil]
  refine ⟨by decide, fun h => (dns_long (by omega)).symm, fun hn => ⟨by decide, by decide, ⟨by omega, rfl⟩, ?_⟩⟩
  rintro ⟨wd, rest, more, _⟩ _ ⟨e1, e2, e3⟩
  simp only at e1 e2 e3 ⊢
  have hcl := cutD_len l 46
  refine ⟨fun y _ => y.2.2.1.length ≤ l.length ∧ y.2.1.length ≤ l.length ∧ ∃ P, P.all labelD = true ∧ labelsD l = P ++ (y.2.2.1 :: if y.1 then labelsD y.2.1 else []), fun y _ => if y.1 then y.2.1.length + 1 else 0,
    ⟨by rw [e1]; exact hcl.1, by rw [e2]; exact hcl.2, [], rfl, by rw [e1, e2, e3]; exact labels_cut l⟩, ?_⟩
  rintro ⟨mo, re, w, _⟩ ⟨⟨z1, _⟩, ⟨z2, _⟩, ⟨z3, _⟩, _⟩ _ _ ⟨w1, w2, P, hP, hW⟩
  simp only at w1 w2 hW ⊢
  refine ⟨by omega, ?_⟩
  rintro ⟨b, _⟩ _ eb
  simp only at eb ⊢
  refine ⟨fun h => (dns_bad (w := w) (by rw [hW]; simp) (eb.symm.trans h)).symm, fun h => ⟨fun hm => ⟨⟨by omega, rfl⟩, ?_⟩, fun hm => ?_⟩⟩
  . rintro ⟨wd', re', mo', _⟩ _ ⟨f1, f2, f3⟩
    simp only at f1 f2 f3 ⊢
    have hcl := cutD_len re 46
    have hj := congrArg List.length (cutD_join re 46)
    rw [← f1, ← f2, ← f3] at hj
    rw [← f1, ← f2] at hcl
    refine ⟨⟨by omega, by omega, P ++ [w], ?_, ?_⟩, ?_⟩
    . rw [List.all_append, hP]
      simp [← eb, h]
    . rw [hW, hm, f1, f2, f3]
      simp only [if_true]
      rw [labels_cut re, List.append_assoc]
      rfl
    . rw [hm]
      simp only [if_true]
      split
      . rename_i hmo
        rw [hmo] at hj
        simp at hj
        omega
      . omega
  . have hWe : labelsD l = P ++ [w] := by rw [hW, hm]; rfl
    have hdn : dnsD l = !w.all digitD := by
      rw [dns_last (by omega) (by rw [hWe, List.all_append, hP]; simp [← eb, h]), hWe, last_snoc]
    rw [hdn]
    refine ⟨fun y _ => 0 ≤ y.1 ∧ y.1 ≤ w.length ∧ ∀ j, j < y.1.toNat → digitD (w.getD j 0) = true, fun y _ => ((w.length : Int) - y.1).toNat, ⟨Int.le_refl 0, by simp only; omega, fun j hj => by simp at hj⟩, ?_⟩
    rintro ⟨i, b2, _⟩ z _ _ ⟨i0, i1, i2⟩
    simp only at i0 i1 i2 ⊢
    have hw1 : IntKind.wrap .i64 (i + 1) = i + 1 := wrapK _ (by omega) (by omega)
    rw [hw1]
    refine ⟨fun hlt => ⟨⟨i0, hlt⟩, ?_⟩, fun hge => by rw [all_get _ _ (fun j hj => i2 j (by omega))]; rfl⟩
    rintro ⟨c, _⟩ _ ec
    simp only at ec ⊢
    refine ⟨fun h => by rw [all_not _ _ i.toNat (by omega) (ec.symm.trans h)]; rfl, fun h => ⟨⟨by omega, by omega, fun j hj => ?_⟩, by omega⟩⟩
    by_cases hji : j < i.toNat
    . exact i2 j hji
    . rw [show j = i.toNat by omega, ← ec]; exact h
theorem h19 : c_host_DNS.ok Tryd.prog GL 19 := con_ok (H := {}) (mkEnv_ok (gl := GL) (l := [(53, i53), (54, conSem c_host_label), (55, i55)]) (q := [(111, i111)]) (d := []) _ tyOk (by kernel_rfl) ⟨i53_ok, h54.call, i55_ok, trivial⟩ ⟨i111_ok, trivial⟩ trivial) (by kernel_rfl) (by kernel_rfl) (Eq.mp e19 k19)
def t58 : Prop :=
  ∀ (x : q3), (wsZ x.1 /\ True) -> List.length x.1 <= q25 -> True /\ (∀ (y : List Int × Bool × Unit), (wsZ y.1 /\ wbZ y.2.1 /\ True) -> (y.1 = if hasP q30 x.1 = true then List.drop
  (List.length q30) x.1 else x.1) /\ y.2.1 = hasP q30 x.1 -> (y.2.1 = true -> True) /\ (y.2.1 = true -> (y.2.1 == true) = true /\ True) /\ (y.2.1 = true -> (y.2.1 == true) = true /\ True) /\
  (y.2.1 = true -> (y.2.1 == true) = true) /\ ((q29 y x) = true -> True) /\ ((q29 y x) = true -> ((q29 y x) == true) = true /\ List.length y.1 < q6 /\ (∀ (y_1 : q2), (q13 y_1) -> y_1.1 =
  decide (q7 <= idxS y.1 q28) -> (y_1.1 = true -> True) /\ (y_1.1 = true -> (y_1.1 == true) = true /\ List.length y.1 <= q25 /\ (∀ (y_2 : q2), (q13 y_2) -> y_2.1 = dnsD y.1 -> y_2.1 = wildD
  x.1) /\ True) /\ (y_1.1 = !true -> false = wildD x.1)) /\ True) /\ ((q29 y x) = !true -> false = wildD x.1)) /\ True
theorem e58 : t58 = Con.vc c_host_Wild GL (mkEnv ty [(114, conSem c_strings_CutPrefix), (115, conSem c_strings_Contains), (19, conSem c_host_DNS)] [] [] [0, 2, 3, 4]) {} Tryd.f58.ntmps Tryd.f58.results.toList (bodyOf Tryd.f58) := by kernel_rfl
theorem k58 : t58 := by
  unfold t58
  delta q3 wsZ q25 wbZ q30 q29 q6 q2 q13 q7 q28 lnZ
  rintro ⟨l, _⟩ hx hp
  have hp : l.length ≤ 1000000000 := hp
  try dsimp +instances only [dft_int, dft_sl, dft_str]
  simp only [true_and, and_true, eq_self_iff_true, implies_true, reduceCtorEq, false_implies, true_implies, decide_eq_true_eq, decide_eq_false_iff_not, beq_self_eq_true, Bool.not_eq_true', ne_eq, Decidable.not_not, List.nil_append, List.length_singleton, List.length_cons, List.length_nil, Nat.zero_add, Nat.add_zero, Nat.mul_one, and_self, beq_iff_eq, Bool.not_true, Bool.not_false, Bool.not_eq_false', Bool.cond_false_right, Bool.and_eq_true, imp_self, Bool.not_eq_true, Bool.cond_true_left, Bool.or_eq_true]
  have hb : bs { data := #[46] } = [46] := by decide
  have hb2 : bs { data := #[42, 46] } = [42, 46] := by decide
  rw [hb, hb2]
  rintro ⟨a, b, _⟩ _ ⟨ea, eb⟩
  simp only at ea eb ⊢
  have hal : a.length ≤ l.length := by rw [ea]; split <;> simp
  refine ⟨fun h => ⟨h, by omega, ?_⟩, fun h => ?_⟩
  . have hh : hasP [42, 46] l = true := eb.symm.trans h.1
    rw [if_pos hh] at ea
    have ea : a = l.drop 2 := ea
    rintro ⟨c, _⟩ _ ec
    simp only at ec ⊢
    rw [contains_one, ea] at ec
    have hwd : wildD l = (c && dnsD a) := by
      rw [wildD, hh, decide_eq_true (show l.length ≤ 253 by omega), ← ec, ← ea]; rfl
    rw [hwd]
    refine ⟨fun hc => ⟨hc, by omega, ?_⟩, fun hc => by rw [hc]; rfl⟩
    rintro ⟨d, _⟩ _ ed
    simp only at ed ⊢
    rw [hc, ed]; rfl
  . rw [eb] at h
    rw [wildD, ← Bool.and_assoc, show decide (l.length ≤ 253) = decide ((l.length : Int) ≤ 253) from decide_eq_decide.2 (by omega), h]; rfl
theorem h58 : c_host_Wild.ok Tryd.prog GL 58 := con_ok (H := {}) (mkEnv_ok (gl := GL) (l := [(114, conSem c_strings_CutPrefix), (115, conSem c_strings_Contains), (19, conSem c_host_DNS)]) (q := []) (d := []) _ tyOk (by kernel_rfl) ⟨h114.call, h115.call, h19.call, trivial⟩ trivial trivial) (by kernel_rfl) (by kernel_rfl) (Eq.mp e58 k58)
end Go.Proofs.YtbdfeddakniaeaaDoor
end
section
namespace Go.Proofs.YtbdfeddakniaeaaDoor
open Go Go.Vc Go.Pl Go.Proofs
def c_host_small : Con := { args := [.dat .str], res := [.dat .str], pre := fun x => x.1.length ≤ 1000000000, post := fun x y => y.1 = lowD x.1 }
def c_host_Match : Con := { args := [.dat .str, .dat .str], res := [.dat .bool], pre := fun x => x.1.length ≤ 1000000000 ∧ x.2.1.length ≤ 1000000000, post := fun x y => y.1 = matchD x.1 x.2.1 }
end Go.Proofs.YtbdfeddakniaeaaDoor
end
section
namespace Go.Proofs.YtbdfeddakniaeaaDoor
open Go Go.Vc Go.Pl Go.Proofs
set_option linter.unusedVariables false
set_option linter.unusedSimpArgs false
abbrev wyZ (x : List Int) : Prop := Kd.wf (Kd.sl (Kd.int IntKind.u8)) x
abbrev q31 (p0 : q3) (p1 : Int × Unit) := (bif decide ((65 : Int) <= List.getD p0.1 (Int.toNat p1.1) (Kd.dft (Kd.int IntKind.u8))) then decide (List.getD p0.1 (Int.toNat p1.1) (Kd.dft
  (Kd.int IntKind.u8)) <= (90 : Int)) else false)
abbrev q32 (p0 : q3) (p1 : Int × Unit) := (IntKind.wrap IntKind.u8 (IntKind.wrap IntKind.u8 (List.getD p0.1 (Int.toNat p1.1) (Kd.dft (Kd.int IntKind.u8)) + (97 : Int)) - (65 : Int)))
abbrev q33 (p0 : q3) (p1 : Int × Unit) := ((65 : Int) <= List.getD p0.1 (Int.toNat p1.1) (Kd.dft (Kd.int IntKind.u8)))
def t57 : Prop :=
  ∀ (x : q3), (wsZ x.1 /\ True) -> List.length x.1 <= q25 -> ∃ (I : Int × Unit -> List Int × Unit -> Prop), ∃ (μ : Int × Unit -> List Int × Unit -> Nat), ((lnZ x.1) = (lnZ x.1) /\ bs { data
  := #[] } = bs { data := #[] } /\ x.1 = x.1 /\ I (q7, ()) (x.1, ())) /\ ∀ (y : Int × Unit) (z : q3), (wiZ y.1 /\ True) -> (wyZ z.1 /\ True) -> I y z -> (decide (y.1 < (lnZ x.1)) = true ->
  (q7 <= y.1 /\ y.1 < (lnZ z.1)) /\ (decide (q33 z y) = true -> True) /\ (decide (q33 z y) = true -> (decide (q33 z y) == true) = true /\ True) /\ (decide (q33 z y) = true -> (decide (q33 z
  y) == true) = true) /\ ((q31 z y) = true -> (q7 <= y.1 /\ y.1 < (lnZ z.1)) /\ (lnZ x.1) = (lnZ x.1) /\ bs { data := #[] } = bs { data := #[] } /\ x.1 = x.1 /\ I (wrZ (y.1 + (1 : Int)), ())
  (List.set z.1 (Int.toNat y.1) (q32 z y), ()) /\ μ (wrZ (y.1 + (1 : Int)), ()) (List.set z.1 (Int.toNat y.1) (q32 z y), ()) < μ y z) /\ ((q31 z y) = false -> (lnZ x.1) = (lnZ x.1) /\ bs {
  data := #[] } = bs { data := #[] } /\ x.1 = x.1 /\ I (wrZ (y.1 + (1 : Int)), ()) (z.1, ()) /\ μ (wrZ (y.1 + (1 : Int)), ()) (z.1, ()) < μ y z)) /\ (decide (y.1 < (lnZ x.1)) = false -> z.1 =
  lowD x.1)
theorem e57 : t57 = Con.vc c_host_small GL (mkEnvO ty [] [] [] [0, 2, 3, 4, 5, 8, 9, 10, 11, 20] [7]) {} Tryd.f57.ntmps Tryd.f57.results.toList (bodyOf Tryd.f57) := by kernel_rfl
theorem k57 : t57 := by
  unfold t57
  delta q3 wsZ q25 lnZ q7 wiZ wyZ q33 q31 wrZ q32
  rintro ⟨l, _⟩ hx hp
  have hp : l.length ≤ 1000000000 := hp
  try dsimp +instances only [dft_int, dft_sl, dft_str]
  simp only [true_and, and_true, eq_self_iff_true, implies_true, reduceCtorEq, false_implies, true_implies, decide_eq_true_eq, decide_eq_false_iff_not, beq_self_eq_true, Bool.not_eq_true', ne_eq, Decidable.not_not, List.nil_append, List.length_singleton, List.length_cons, List.length_nil, Nat.zero_add, Nat.add_zero, Nat.mul_one, and_self, beq_iff_eq, Bool.not_true, Bool.not_false, Bool.not_eq_false', Bool.cond_false_right, Bool.and_eq_true, imp_self, Bool.not_eq_true, Bool.cond_true_left, Bool.or_eq_true]
  refine ⟨fun y z => 0 ≤ y.1 ∧ y.1 ≤ l.length ∧ z.1 = lowD (l.take y.1.toNat) ++ l.drop y.1.toNat, fun y _ => ((l.length : Int) - y.1).toNat, ⟨Int.le_refl 0, by simp only; omega, rfl⟩, ?_⟩
  rintro ⟨i, _⟩ ⟨z, _⟩ _ _ ⟨i0, i1, ez⟩
  simp only at i0 i1 ez ⊢
  have hw1 : IntKind.wrap .i64 (i + 1) = i + 1 := wrapK _ (by omega) (by omega)
  have hzl : (lowD (l.take i.toNat)).length = i.toNat := by rw [low_len, List.length_take]; omega
  have hll : z.length = l.length := by rw [ez, List.length_append, hzl, List.length_drop]; omega
  rw [hw1]
  have e1 : (i + 1).toNat = i.toNat + 1 := by omega
  have hg : z.getD i.toNat 0 = l.getD i.toNat 0 := by
    have := getD_append_right (lowD (l.take i.toNat)) (l.drop i.toNat) 0
    rw [hzl, Nat.add_zero] at this
    rw [ez, this, getD_drop, Nat.add_zero]
  have step : i < l.length → lowD (l.take (i + 1).toNat) = lowD (l.take i.toNat) ++ [smallD (l.getD i.toNat 0)] := fun hlt => by
    rw [e1, take_snoc l i.toNat (by omega)]
    simp [lowD]
  rw [hg]
  refine ⟨fun hlt => ⟨⟨i0, by omega⟩, fun h => ⟨⟨i0, by omega⟩, ⟨by omega, by omega, ?_⟩, by omega⟩, fun h => ⟨⟨by omega, by omega, ?_⟩, by omega⟩⟩, fun hge => ?_⟩
  . have w1 : IntKind.wrap .u8 (l.getD i.toNat 0 + 97) = l.getD i.toNat 0 + 97 := wrap8 _ (by omega) (by omega)
    rw [w1, wrap8 (l.getD i.toNat 0 + 97 - 65) (by omega) (by omega), step hlt, smallD, if_pos h, ez, drop_cons l i.toNat (by omega)]
    have e2 : (lowD (l.take i.toNat) ++ l.getD i.toNat 0 :: l.drop (i.toNat + 1)).set i.toNat (l.getD i.toNat 0 + 97 - 65) = lowD (l.take i.toNat) ++ (l.getD i.toNat 0 + 97 - 65) :: l.drop (i.toNat + 1) := by
      rw [List.set_append_right _ _ (by omega), hzl, Nat.sub_self]; rfl
    rw [e2, e1, List.append_assoc, show l.getD i.toNat 0 + 97 - 65 = l.getD i.toNat 0 + 32 by omega]
    rfl
  . simp only [Bool.and_eq_false_iff, decide_eq_false_iff_not] at h
    rw [step hlt, smallD, if_neg (by omega), ez, drop_cons l i.toNat (by omega), e1, List.append_assoc]
    rfl
  . rw [ez, List.take_of_length_le (by omega), List.drop_of_length_le (by omega), List.append_nil]
theorem h57 : c_host_small.ok Tryd.prog GL 57 := conO_ok (H := {}) (mkEnvO_ok (gl := GL) (l := []) (q := []) (d := []) _ [7] tyOk (by kernel_rfl) trivial trivial trivial) (by kernel_rfl) (by kernel_rfl) (Eq.mp e57 k57)
def t20 : Prop :=
  ∀ (x : q0), (q5 x) -> List.length x.1 <= q25 /\ List.length x.2.1 <= q25 -> List.length x.2.1 <= q25 /\ (∀ (y : q2), (q13 y) -> y.1 = dnsD x.2.1 -> ((!y.1) = true -> false = matchD x.1
  x.2.1) /\ ((!y.1) = false -> List.length x.1 <= q25 /\ (∀ (y : q2), (q13 y) -> y.1 = dnsD x.1 -> (y.1 = true -> List.length x.1 <= q25 /\ (∀ (y : q3), (wsZ y.1 /\ True) -> y.1 = lowD x.1 ->
  List.length x.2.1 <= q25 /\ (∀ (y_1 : q3), (wsZ y_1.1 /\ True) -> y_1.1 = lowD x.2.1 -> decide (y.1 = y_1.1) = matchD x.1 x.2.1) /\ True) /\ True) /\ (y.1 = false -> List.length x.1 <= q25
  /\ (∀ (y : q2), (q13 y) -> y.1 = wildD x.1 -> ((!y.1) = true -> false = matchD x.1 x.2.1) /\ ((!y.1) = false -> List.length x.2.1 <= q25 /\ (∀ (y : q3), (wsZ y.1 /\ True) -> y.1 = lowD
  x.2.1 -> (List.length y.1 < q6 /\ List.length q28 = (1 : Nat)) /\ (∀ (y_1 : q1), (wsZ y_1.1 /\ wsZ y_1.2.1 /\ wbZ y_1.2.2.1 /\ True) -> y_1.1 = (q27 y).1 /\ y_1.2.1 = (q27 y).2.1 /\
  y_1.2.2.1 = (q27 y).2.2 -> (y_1.2.2.1 = true -> True) /\ (y_1.2.2.1 = true -> True) /\ (y_1.2.2.1 = true -> (y_1.2.2.1 == true) = true /\ (q7 <= (2 : Int) /\ (2 : Int) <= (lnZ x.1)) /\
  True) /\ (y_1.2.2.1 = true -> (y_1.2.2.1 == true) = true /\ List.length (List.drop (2 : Nat) x.1) <= q25 /\ (∀ (y : q3), (wsZ y.1 /\ True) -> y.1 = lowD (List.drop (2 : Nat) x.1) ->
  (y_1.2.2.1 == true) = true /\ decide (y_1.2.1 = y.1) = matchD x.1 x.2.1) /\ True) /\ (y_1.2.2.1 = !true -> false = matchD x.1 x.2.1)) /\ True) /\ True)) /\ True)) /\ True)) /\ True
theorem e20 : t20 = Con.vc c_host_Match GL (mkEnv ty [(19, conSem c_host_DNS), (57, conSem c_host_small), (58, conSem c_host_Wild), (47, conSem c_strings_Cut)] [] [] [0, 1, 4, 6, 7, 8, 12, 20]) {} Tryd.f20.ntmps Tryd.f20.results.toList (bodyOf Tryd.f20) := by kernel_rfl
theorem k20 : t20 := by
  unfold t20
  delta q0 q5 q25 q2 q13 q3 wsZ q6 q28 q1 wbZ q27 q7 lnZ
  rintro ⟨l, m, _⟩ hx hp
  obtain ⟨h1, h2⟩ := hp
  simp only at h1 h2
  try dsimp +instances only [dft_int, dft_sl, dft_str]
  simp only [true_and, and_true, eq_self_iff_true, implies_true, reduceCtorEq, false_implies, true_implies, decide_eq_true_eq, decide_eq_false_iff_not, beq_self_eq_true, Bool.not_eq_true', ne_eq, Decidable.not_not, List.nil_append, List.length_singleton, List.length_cons, List.length_nil, Nat.zero_add, Nat.add_zero, Nat.mul_one, and_self, beq_iff_eq, Bool.not_true, Bool.not_false, Bool.not_eq_false', Bool.cond_false_right, Bool.and_eq_true, imp_self, Bool.not_eq_true, Bool.cond_true_left, Bool.or_eq_true]
  have hb : bs { data := #[46] } = [46] := by decide
  have hd : ([46] : List Int).getD 0 0 = 46 := rfl
  rw [hb, hd]
  refine ⟨h2, ?_⟩
  rintro ⟨a, _⟩ _ ea
  simp only at ea ⊢
  rw [matchD, ← ea]
  refine ⟨fun h => by rw [h]; rfl, fun h => ⟨h1, ?_⟩⟩
  rintro ⟨b, _⟩ _ eb
  simp only at eb ⊢
  rw [h, ← eb]
  refine ⟨fun h => ⟨h1, ?_⟩, fun h => ⟨h1, ?_⟩⟩
  . rintro ⟨c, _⟩ _ ec
    refine ⟨h2, ?_⟩
    rintro ⟨d, _⟩ _ ed
    simp only at ec ed ⊢
    rw [ec, ed, h]; rfl
  . rintro ⟨c, _⟩ _ ec
    simp only at ec ⊢
    rw [h, ← ec]
    refine ⟨fun h => by rw [h]; rfl, fun h => ⟨h2, ?_⟩⟩
    rintro ⟨d, _⟩ _ ed
    simp only at ed ⊢
    subst ed
    have hll := low_len m
    refine ⟨⟨by omega, rfl⟩, ?_⟩
    rintro ⟨u, v, w, _⟩ _ ⟨eu, ev, ew⟩
    simp only at eu ev ew ⊢
    rw [h, ← ev, ← ew]
    obtain ⟨r, rfl, _⟩ := wild_form (ec.symm.trans h)
    refine ⟨fun h => ⟨h, by decide, by simp; omega⟩, fun h => ⟨h, by simp at *; omega, ?_⟩, fun h => by rw [h]; rfl⟩
    rintro ⟨x, _⟩ _ ex
    simp only at ex ⊢
    rw [h, ex]
    exact ⟨rfl, rfl⟩
theorem h20 : c_host_Match.ok Tryd.prog GL 20 := con_ok (H := {}) (mkEnv_ok (gl := GL) (l := [(19, conSem c_host_DNS), (57, conSem c_host_small), (58, conSem c_host_Wild), (47, conSem c_strings_Cut)]) (q := []) (d := []) _ tyOk (by kernel_rfl) ⟨h19.call, h57.call, h58.call, h47.call, trivial⟩ trivial trivial) (by kernel_rfl) (by kernel_rfl) (Eq.mp e20 k20)
end Go.Proofs.YtbdfeddakniaeaaDoor
end
