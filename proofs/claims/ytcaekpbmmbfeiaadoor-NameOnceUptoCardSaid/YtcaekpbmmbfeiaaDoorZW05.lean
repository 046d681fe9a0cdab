/- Texts of a verified walk, led together: OiddA, OiddW. -/
import Derived.Test.YtcaekpbmmbfeiaaDoorZW04
import Derived.Test.YtcaekpbmmbfeiaaDoorZV10
set_option linter.unusedVariables false
set_option linter.unusedSimpArgs false
section
/- Contracts. -/
namespace Go.Proofs.YtcaekpbmmbfeiaaDoor
open Go Go.Vc Go.Pl Go.Proofs
def c_oid_next : Con := { args := [.dat BY, .dat I64], res := [.dat I64, .dat I64], pre := fun x => 0 ≤ x.2.1, post := fun x y => NextD x.1 x.2.1 = (y.1, y.2.1, 0), pan := true, pt := 131, pk := .pair I64 .unit, ppost := fun x e => (NextD x.1 x.2.1).2.2 = e.1 ∧ e.1 ≠ 0 }
def c_oid_split : Con := { args := [.dat I64], res := [.own 3 I64], pre := fun x => 0 ≤ x.1, post := fun x y => y.1 = SplitD x.1 }
def c_oid_Decode : Con := { args := [.dat BY], res := [.own 3 I64, .dat I64], pre := fun _ => True, post := fun x y => (y.1, y.2.1) = DecD x.1 }

end Go.Proofs.YtcaekpbmmbfeiaaDoor
end
section
/- Walks. -/
namespace Go.Proofs.YtcaekpbmmbfeiaaDoor
open Go Go.Vc Go.Pl Go.Proofs
set_option linter.unusedVariables false
set_option linter.unusedSimpArgs false
def t91 : Prop :=
  ∀ (x : List Int × Int × Unit), Kd.wf (Kd.sl (Kd.int IntKind.u8)) x.fst ∧ Kd.wf (Kd.int IntKind.i64) x.snd.fst ∧ True → (0 : Int) ≤ x.snd.fst → (decide (x.snd.fst < (↑(List.length x.fst) :
  Int)) = true → True) ∧ (decide (x.snd.fst < (↑(List.length x.fst) : Int)) = true → True) ∧ (decide (x.snd.fst < (↑(List.length x.fst) : Int)) = true → (decide (x.snd.fst < (↑(List.length
  x.fst) : Int)) == true) = true ∧ (decide (x.snd.fst < (↑(List.length x.fst) : Int)) == true) = true ∧ ((0 : Int) ≤ x.snd.fst ∧ x.snd.fst < (↑(List.length x.fst) : Int)) ∧ True) ∧ (decide
  (x.snd.fst < (↑(List.length x.fst) : Int)) = true → (decide (x.snd.fst < (↑(List.length x.fst) : Int)) == true) = true ∧ True) ∧ (decide (x.snd.fst < (↑(List.length x.fst) : Int)) = true →
  (decide (x.snd.fst < (↑(List.length x.fst) : Int)) == true) = true ∧ True) ∧ (decide (x.snd.fst < (↑(List.length x.fst) : Int)) = true → (decide (x.snd.fst < (↑(List.length x.fst) : Int))
  == true) = true) ∧ ((bif decide (x.snd.fst < (↑(List.length x.fst) : Int)) then decide (List.getD x.fst (Int.toNat x.snd.fst) (Kd.dft (Kd.int IntKind.u8)) = (128 : Int)) else false) = true
  → (NextD x.fst x.snd.fst).snd.snd = (30 : Int) ∧ (30 : Int) ≠ (0 : Int)) ∧ ((bif decide (x.snd.fst < (↑(List.length x.fst) : Int)) then decide (List.getD x.fst (Int.toNat x.snd.fst) (Kd.dft
  (Kd.int IntKind.u8)) = (128 : Int)) else false) = false → ∃ (I : Int × Int × Int × Int × Unit → Unit → Prop), ∃ (μ : Int × Int × Int × Int × Unit → Unit → Nat), (Value.bool false =
  Value.bool false ∧ x.fst = x.fst ∧ I ((0 : Int), (0 : Int), (0 : Int), x.snd.fst, ()) ()) ∧ ∀ (y : Int × Int × Int × Int × Unit) (z : Unit), Kd.wf (Kd.int IntKind.i64) y.fst ∧ Kd.wf (Kd.int
  IntKind.i64) y.snd.fst ∧ Kd.wf (Kd.int IntKind.i64) y.snd.snd.fst ∧ Kd.wf (Kd.int IntKind.i64) y.snd.snd.snd.fst ∧ True → True → I y z → (decide (y.snd.snd.snd.fst < (↑(List.length x.fst) :
  Int)) = true → (0 : Int) ≤ (7 : Int) ∧ ((0 : Int) ≤ y.snd.snd.snd.fst ∧ y.snd.snd.snd.fst < (↑(List.length x.fst) : Int)) ∧ (decide ((2147483647 : Int) < IntKind.wrap IntKind.i64
  (↑(BitVec.toNat (BitVec.ofInt (64 : Nat) (IntKind.wrap IntKind.i64 (y.fst * (2 : Int) ^ (7 : Nat))) ||| BitVec.ofInt (64 : Nat) (IntKind.wrap IntKind.i64 (IntKind.wrap IntKind.u8
  (↑(BitVec.toNat (BitVec.ofInt (8 : Nat) (List.getD x.fst (Int.toNat y.snd.snd.snd.fst) (Kd.dft (Kd.int IntKind.u8))) &&& BitVec.ofInt (8 : Nat) (127 : Int))) : Int))))) : Int)) = true →
  (NextD x.fst x.snd.fst).snd.snd = (31 : Int) ∧ (31 : Int) ≠ (0 : Int)) ∧ (decide ((2147483647 : Int) < IntKind.wrap IntKind.i64 (↑(BitVec.toNat (BitVec.ofInt (64 : Nat) (IntKind.wrap
  IntKind.i64 (y.fst * (2 : Int) ^ (7 : Nat))) ||| BitVec.ofInt (64 : Nat) (IntKind.wrap IntKind.i64 (IntKind.wrap IntKind.u8 (↑(BitVec.toNat (BitVec.ofInt (8 : Nat) (List.getD x.fst
  (Int.toNat y.snd.snd.snd.fst) (Kd.dft (Kd.int IntKind.u8))) &&& BitVec.ofInt (8 : Nat) (127 : Int))) : Int))))) : Int)) = false → ((0 : Int) ≤ y.snd.snd.snd.fst ∧ y.snd.snd.snd.fst <
  (↑(List.length x.fst) : Int)) ∧ (decide (List.getD x.fst (Int.toNat y.snd.snd.snd.fst) (Kd.dft (Kd.int IntKind.u8)) < (128 : Int)) = true → NextD x.fst x.snd.fst = (IntKind.wrap IntKind.i64
  (↑(BitVec.toNat (BitVec.ofInt (64 : Nat) (IntKind.wrap IntKind.i64 (y.fst * (2 : Int) ^ (7 : Nat))) ||| BitVec.ofInt (64 : Nat) (IntKind.wrap IntKind.i64 (IntKind.wrap IntKind.u8
  (↑(BitVec.toNat (BitVec.ofInt (8 : Nat) (List.getD x.fst (Int.toNat y.snd.snd.snd.fst) (Kd.dft (Kd.int IntKind.u8))) &&& BitVec.ofInt (8 : Nat) (127 : Int))) : Int))))) : Int), IntKind.wrap
  IntKind.i64 (y.snd.snd.snd.fst + (1 : Int)), (0 : Int))) ∧ (decide (List.getD x.fst (Int.toNat y.snd.snd.snd.fst) (Kd.dft (Kd.int IntKind.u8)) < (128 : Int)) = false → Value.bool false =
  Value.bool false ∧ x.fst = x.fst ∧ I (IntKind.wrap IntKind.i64 (↑(BitVec.toNat (BitVec.ofInt (64 : Nat) (IntKind.wrap IntKind.i64 (y.fst * (2 : Int) ^ (7 : Nat))) ||| BitVec.ofInt (64 :
  Nat) (IntKind.wrap IntKind.i64 (IntKind.wrap IntKind.u8 (↑(BitVec.toNat (BitVec.ofInt (8 : Nat) (List.getD x.fst (Int.toNat y.snd.snd.snd.fst) (Kd.dft (Kd.int IntKind.u8))) &&& BitVec.ofInt
  (8 : Nat) (127 : Int))) : Int))))) : Int), y.snd.fst, y.snd.snd.fst, IntKind.wrap IntKind.i64 (y.snd.snd.snd.fst + (1 : Int)), ()) () ∧ μ (IntKind.wrap IntKind.i64 (↑(BitVec.toNat
  (BitVec.ofInt (64 : Nat) (IntKind.wrap IntKind.i64 (y.fst * (2 : Int) ^ (7 : Nat))) ||| BitVec.ofInt (64 : Nat) (IntKind.wrap IntKind.i64 (IntKind.wrap IntKind.u8 (↑(BitVec.toNat
  (BitVec.ofInt (8 : Nat) (List.getD x.fst (Int.toNat y.snd.snd.snd.fst) (Kd.dft (Kd.int IntKind.u8))) &&& BitVec.ofInt (8 : Nat) (127 : Int))) : Int))))) : Int), y.snd.fst, y.snd.snd.fst,
  IntKind.wrap IntKind.i64 (y.snd.snd.snd.fst + (1 : Int)), ()) () < μ y z))) ∧ (decide (y.snd.snd.snd.fst < (↑(List.length x.fst) : Int)) = false → (NextD x.fst x.snd.fst).snd.snd = (10 :
  Int) ∧ (10 : Int) ≠ (0 : Int)))
theorem e91 : t91 = Con.vc c_oid_next GL (mkEnv ty [] [] [] [0, 1, 4, 5, 6, 17, 23, 36, 43]) {} Tryd.f91.ntmps Tryd.f91.results.toList (bodyOf Tryd.f91) := by kernel_rfl
theorem k91 : t91 := by
  unfold t91
  rintro ⟨l, i, _⟩ hx hp
  have hp : 0 ≤ i := hp
  have hwl : l.length ≤ 9223372036854775807 := hx.1.1
  have hwf : Bys l := sl_bys hx.1
  try dsimp +instances only [dft_int, dft_sl, dft_str]
  simp only [true_and, and_true, eq_self_iff_true, implies_true, reduceCtorEq, false_implies, true_implies, decide_eq_true_eq, decide_eq_false_iff_not, beq_self_eq_true, Bool.not_eq_true', ne_eq, Decidable.not_not, List.nil_append, List.length_singleton, List.length_cons, List.length_nil, Nat.zero_add, Nat.add_zero, Nat.mul_one, and_self, beq_iff_eq, Bool.not_true, Bool.not_false, Bool.not_eq_false', Bool.cond_false_right, Bool.and_eq_true, imp_self, Bool.not_eq_true, Bool.cond_true_left, Bool.or_eq_true]
  refine ⟨fun h => ⟨h, h, hp, h⟩, fun h => by rw [next_30 l i h.2]; exact ⟨rfl, by decide⟩, fun h => ?_⟩
  have hne : l.getD i.toNat 0 ≠ 128 := fun e => by
    have hlt : i < l.length := by
      by_cases hi : i.toNat < l.length
      · omega
      · rw [List.getD_eq_getElem?_getD, List.getElem?_eq_none (by omega)] at e
        cases e
    rcases Bool.and_eq_false_iff.1 h with h | h
    · exact of_decide_eq_false h hlt
    · exact of_decide_eq_false h e
  have hN := next_go l i hne
  rw [hN]
  refine ⟨fun y _ => 0 ≤ y.1 ∧ y.1 ≤ 2147483647 ∧ 0 ≤ y.2.2.2.1 ∧ nextR (l.drop i.toNat) 0 i = nextR (l.drop y.2.2.2.1.toNat) y.1 y.2.2.2.1, fun y _ => ((l.length : Int) - y.2.2.2.1).toNat, ⟨by omega, by omega, hp, rfl⟩, ?_⟩
  rintro ⟨v, r1, r2, p, _⟩ z _ ⟨h0, h1, h2, h3⟩
  simp only at h0 h1 h2 h3 ⊢
  refine ⟨fun hlt => ?_, fun hge => ?_⟩
  · have hb := bys_get hwf p.toNat
    have hor := or7 v _ hb ⟨h0, h1⟩
    have hw : IntKind.wrap .i64 (p + 1) = p + 1 := by rw [IntKind.wrap_i64]; omega
    rw [hor, hw]
    rw [drop_cons l p.toNat (by omega)] at h3
    have e1 : (p + 1).toNat = p.toNat + 1 := by omega
    generalize l.getD p.toNat 0 = b at hb h3 ⊢
    have e : nextR (b :: l.drop (p.toNat + 1)) v p = if 2147483647 < v * 128 + b % 128 then (0, 0, 31) else if b < 128 then (v * 128 + b % 128, p + 1, 0) else nextR (l.drop (p.toNat + 1)) (v * 128 + b % 128) (p + 1) := rfl
    rw [e] at h3
    refine ⟨by decide, ⟨h2, hlt⟩, fun hc => by rw [h3, if_pos hc]; exact ⟨rfl, by decide⟩, fun hc => ⟨⟨h2, hlt⟩, fun hd => by rw [h3, if_neg hc, if_pos hd], fun hd => ⟨⟨by omega, by omega, by omega, ?_⟩, by omega⟩⟩⟩
    rw [e1, h3, if_neg hc, if_neg hd]
  · rw [h3, List.drop_of_length_le (by omega)]
    exact ⟨rfl, by decide⟩
theorem h91 : c_oid_next.ok Tryd.prog GL 91 := con_ok (H := {}) (mkEnv_ok (gl := GL) (l := []) (q := []) (d := []) _ tyOk (by kernel_rfl) trivial trivial trivial) (by kernel_rfl) (by kernel_rfl) (Eq.mp e91 k91)

def t92 : Prop :=
  ∀ (x : Int × Unit), Kd.wf (Kd.int IntKind.i64) x.fst ∧ True → (0 : Int) ≤ x.fst → (40 : Int) ≠ (0 : Int) ∧ [if (2 : Int) < IntKind.wrap IntKind.i64 (Int.tdiv x.fst (40 : Int)) then (2 :
  Int) else IntKind.wrap IntKind.i64 (Int.tdiv x.fst (40 : Int)), IntKind.wrap IntKind.i64 (x.fst - IntKind.wrap IntKind.i64 ((40 : Int) * if (2 : Int) < IntKind.wrap IntKind.i64 (Int.tdiv
  x.fst (40 : Int)) then (2 : Int) else IntKind.wrap IntKind.i64 (Int.tdiv x.fst (40 : Int))))] = SplitD x.fst
theorem e92 : t92 = Con.vc c_oid_split GL (mkEnv ty [] [] [] [0, 2, 3]) {} Tryd.f92.ntmps Tryd.f92.results.toList (bodyOf Tryd.f92) := by kernel_rfl
theorem k92 : t92 := by
  unfold t92
  rintro ⟨v, _⟩ hx hp
  have hp : 0 ≤ v := hp
  have hr : v ≤ 9223372036854775807 := by
    have h : InR .i64 v := hx.1
    simp [InR, IntKind.min, IntKind.max, IntKind.signed, IntKind.bits] at h
    exact h.2
  try dsimp +instances only [dft_int, dft_sl, dft_str]
  simp only [true_and, and_true, eq_self_iff_true, implies_true, reduceCtorEq, false_implies, true_implies, decide_eq_true_eq, decide_eq_false_iff_not, beq_self_eq_true, Bool.not_eq_true', ne_eq, Decidable.not_not, List.nil_append, List.length_singleton, List.length_cons, List.length_nil, Nat.zero_add, Nat.add_zero, Nat.mul_one, and_self, beq_iff_eq, Bool.not_true, Bool.not_false, Bool.not_eq_false', Bool.cond_false_right, Bool.and_eq_true, imp_self, Bool.not_eq_true, Bool.cond_true_left, Bool.or_eq_true]
  have hw : IntKind.wrap .i64 (v.tdiv 40) = v / 40 := by rw [Int.tdiv_eq_ediv_of_nonneg hp, IntKind.wrap_i64]; omega
  refine ⟨by decide, ?_⟩
  by_cases h : 2 < IntKind.wrap .i64 (v.tdiv 40)
  · rw [if_pos h]
    rw [hw] at h
    rw [SplitD, if_neg (by omega), if_neg (by omega), wrapK (40 * 2) (by decide) (by decide), wrapM (v - 40 * 2) (by omega) (by omega)]
    rfl
  · rw [if_neg h, hw]
    rw [hw] at h
    rw [wrapK (40 * (v / 40)) (by omega) (by omega), wrapK _ (by omega) (by omega)]
    unfold SplitD
    by_cases h1 : v < 40
    · rw [if_pos h1, show v / 40 = 0 by omega]; simp
    · rw [if_neg h1]
      by_cases h2 : v < 80
      · rw [if_pos h2, show v / 40 = 1 by omega]; simp
      · rw [if_neg h2, show v / 40 = 2 by omega]; simp
theorem h92 : c_oid_split.ok Tryd.prog GL 92 := con_ok (H := {}) (mkEnv_ok (gl := GL) (l := []) (q := []) (d := []) _ tyOk (by kernel_rfl) trivial trivial trivial) (by kernel_rfl) (by kernel_rfl) (Eq.mp e92 k92)

noncomputable def i90 : DefSem := vcDef (mkEnv ty [] [] [] [0, 1, 2, 3, 4, 7, 14]) {} Tryd.f90.ntmps Tryd.f90.results.toList (bodyOf Tryd.f90)
theorem i90_ok : DefOk Tryd.prog GL 90 i90 := def_ok {} (mkEnv_ok (gl := GL) (l := []) (q := []) (d := []) _ tyOk (by kernel_rfl) trivial trivial trivial) (by kernel_rfl) (by kernel_rfl)

def t66 : Prop :=
  ∀ (x : List Int × Unit), Kd.wf (Kd.sl (Kd.int IntKind.u8)) x.fst ∧ True → True → (1 : Nat) ≤ (65536 : Nat) ∧ (1 : Nat) ≤ (65536 : Nat) ∧ (0 : Int) ≤ (0 : Int) ∧ (∀ (y : Int × Int × Unit),
  Kd.wf (Kd.int IntKind.i64) y.fst ∧ Kd.wf (Kd.int IntKind.i64) y.snd.fst ∧ True → NextD x.fst (0 : Int) = (y.fst, y.snd.fst, (0 : Int)) → (0 : Int) ≤ y.fst ∧ (∀ (y_1 : List Int × Unit),
  Kd.wf (Kd.sl (Kd.int IntKind.i64)) y_1.fst ∧ True → y_1.fst = SplitD y.fst → ∃ (I : Int × Int × Unit → Unit × (Int × Unit) × List Int × Unit → Prop), ∃ (μ : Int × Int × Unit → Unit × (Int ×
  Unit) × List Int × Unit → Nat), (x.fst = x.fst ∧ I (y.snd.fst, y.fst, ()) ((), ((0 : Int), ()), y_1.fst, ())) ∧ ∀ (y : Int × Int × Unit) (z : Unit × (Int × Unit) × List Int × Unit), Kd.wf
  (Kd.int IntKind.i64) y.fst ∧ Kd.wf (Kd.int IntKind.i64) y.snd.fst ∧ True → True ∧ (Kd.wf (Kd.int IntKind.i64) z.snd.fst.fst ∧ True) ∧ Kd.wf (Kd.sl (Kd.int IntKind.i64)) z.snd.snd.fst ∧ True
  → I y z → (decide (y.fst < (↑(List.length x.fst) : Int)) = true → (decide ((↑(List.length z.snd.snd.fst) : Int) = (20 : Int)) = true → ([], (32 : Int)) = DecD x.fst) ∧ (decide
  ((↑(List.length z.snd.snd.fst) : Int) = (20 : Int)) = false → (0 : Int) ≤ y.fst ∧ (∀ (y_2 : Int × Int × Unit), Kd.wf (Kd.int IntKind.i64) y_2.fst ∧ Kd.wf (Kd.int IntKind.i64) y_2.snd.fst ∧
  True → NextD x.fst y.fst = (y_2.fst, y_2.snd.fst, (0 : Int)) → (0 : Nat) < (1 : Nat) ∧ (List.length z.snd.snd.fst + List.length [y_2.fst]) * (8 : Nat) ≤ (140737488355328 : Nat) ∧
  List.length z.snd.snd.fst + List.length [y_2.fst] ≤ (9223372036854775807 : Nat) ∧ x.fst = x.fst ∧ I (y_2.snd.fst, y_2.fst, ()) ((), (z.snd.fst.fst, ()), z.snd.snd.fst ++ [y_2.fst], ()) ∧ μ
  (y_2.snd.fst, y_2.fst, ()) ((), (z.snd.fst.fst, ()), z.snd.snd.fst ++ [y_2.fst], ()) < μ y z) ∧ ∀ (y_2 : Int × Unit), Kd.wf (Kd.pair (Kd.int IntKind.i64) Kd.unit) y_2 → (NextD x.fst
  y.fst).snd.snd = y_2.fst ∧ y_2.fst ≠ (0 : Int) → (1 : Nat) ≤ (65536 : Nat) ∧ ((([], y_2.fst) = DecD x.fst ∧ True) ∧ True) ∧ ((([], y_2.fst) = DecD x.fst ∧ True) ∧ True) ∧ True)) ∧ (decide
  (y.fst < (↑(List.length x.fst) : Int)) = false → (z.snd.snd.fst, (0 : Int)) = DecD x.fst)) ∧ True) ∧ ∀ (y : Int × Unit), Kd.wf (Kd.pair (Kd.int IntKind.i64) Kd.unit) y → (NextD x.fst (0 :
  Int)).snd.snd = y.fst ∧ y.fst ≠ (0 : Int) → (1 : Nat) ≤ (65536 : Nat) ∧ ((([], y.fst) = DecD x.fst ∧ True) ∧ True) ∧ ((([], y.fst) = DecD x.fst ∧ True) ∧ True) ∧ True
theorem e66 : t66 = Con.vc c_oid_Decode GL (mkEnv ty [(91, conSem c_oid_next), (92, conSem c_oid_split)] [] [(90, i90)] [0, 2, 3, 4, 5, 17, 20]) {} Tryd.f66.ntmps Tryd.f66.results.toList (bodyOf Tryd.f66) := by kernel_rfl
theorem k66 : t66 := by
  unfold t66
  rintro ⟨l, _⟩ hx hp
  have hwf : Bys l := sl_bys hx.1
  try dsimp +instances only [dft_int, dft_sl, dft_str]
  simp only [true_and, and_true, eq_self_iff_true, implies_true, reduceCtorEq, false_implies, true_implies, decide_eq_true_eq, decide_eq_false_iff_not, beq_self_eq_true, Bool.not_eq_true', ne_eq, Decidable.not_not, List.nil_append, List.length_singleton, List.length_cons, List.length_nil, Nat.zero_add, Nat.add_zero, Nat.mul_one, and_self, beq_iff_eq, Bool.not_true, Bool.not_false, Bool.not_eq_false', Bool.cond_false_right, Bool.and_eq_true, imp_self, Bool.not_eq_true, Bool.cond_true_left, Bool.or_eq_true]
  refine ⟨by decide, by decide, by decide, ?_, ?_⟩
  · rintro ⟨x, j, _⟩ _ e
    simp only at e ⊢
    have hok := next_ok hwf 0 (by decide) (by rw [e])
    rw [e] at hok
    simp only at hok
    refine ⟨hok.1, ?_⟩
    rintro ⟨s, _⟩ _ es
    simp only at es ⊢
    have hD : DecD l = decR l l.length (SplitD x) j := by rw [DecD, e, if_neg (by simp)]
    refine ⟨fun y z => 0 ≤ y.1 ∧ z.2.2.1.length ≤ 20 ∧ ∃ n : Nat, (l.length : Int) - y.1 ≤ n ∧ DecD l = decR l n z.2.2.1 y.1, fun y _ => ((l.length : Int) - y.1).toNat, ⟨by omega, by rw [es, splitD_len]; decide, l.length, by omega, by rw [es]; exact hD⟩, ?_⟩
    rintro ⟨i, v, _⟩ ⟨_, ⟨c, _⟩, acc, _⟩ _ _ ⟨h0, h20, n, hn, hd⟩
    simp only at h0 h20 hn hd ⊢
    refine ⟨fun hlt => ?_, fun hge => ?_⟩
    · obtain ⟨m, rfl⟩ : ∃ m, n = m + 1 := ⟨n - 1, by omega⟩
      rw [dec_step l m acc i hlt] at hd
      refine ⟨fun h => by rw [hd, if_pos (by omega)], fun h => ⟨h0, ?_, ?_⟩⟩
      · rintro ⟨x', j', _⟩ _ e'
        simp only at e' ⊢
        have hok' := next_ok hwf i h0 (by rw [e'])
        rw [e'] at hok'
        simp only at hok'
        rw [if_neg (by omega), e', if_neg (by simp)] at hd
        exact ⟨by decide, by omega, by omega, ⟨by omega, by simp; omega, m, by omega, hd⟩, by omega⟩
      · rintro ⟨q, _⟩ _ ⟨h1, h2⟩
        simp only at h1 h2 ⊢
        exact ⟨by decide, by rw [hd, if_neg (by omega), if_pos (by rw [h1]; exact h2), h1]⟩
    · rw [hd, dec_end l n acc i hge]
  · rintro ⟨q, _⟩ _ ⟨h1, h2⟩
    simp only at h1 h2 ⊢
    exact ⟨by decide, by rw [DecD, if_pos (by rw [h1]; exact h2), h1]⟩
theorem h66 : c_oid_Decode.ok Tryd.prog GL 66 := con_ok (H := {}) (mkEnv_ok (gl := GL) (l := [(91, conSem c_oid_next), (92, conSem c_oid_split)]) (q := []) (d := [(90, i90)]) _ tyOk (by kernel_rfl) ⟨h91.call, h92.call, trivial⟩ trivial ⟨i90_ok, trivial⟩) (by kernel_rfl) (by kernel_rfl) (Eq.mp e66 k66)

end Go.Proofs.YtcaekpbmmbfeiaaDoor
end
