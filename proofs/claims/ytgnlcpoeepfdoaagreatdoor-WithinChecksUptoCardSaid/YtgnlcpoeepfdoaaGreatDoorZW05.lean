/- Texts of a verified walk, led together: OiddA, OiddW. -/
import Derived.Test.YtgnlcpoeepfdoaaGreatDoorZW04
import Derived.Test.YtgnlcpoeepfdoaaGreatDoorZV10
set_option linter.unusedVariables false
set_option linter.unusedSimpArgs false
section
namespace Go.Proofs.YtgnlcpoeepfdoaaGreatDoor
open Go Go.Vc Go.Pl Go.Proofs
def c_oid_next : Con := { args := [.dat BY, .dat I64], res := [.dat I64, .dat I64], pre := fun x => 0 ≤ x.2.1, post := fun x y => NextD x.1 x.2.1 = (y.1, y.2.1, 0), pan := true, pt := 168, pk := .pair I64 .unit, ppost := fun x e => (NextD x.1 x.2.1).2.2 = e.1 ∧ e.1 ≠ 0 }
def c_oid_split : Con := { args := [.dat I64], res := [.own 3 I64], pre := fun x => 0 ≤ x.1, post := fun x y => y.1 = SplitD x.1 }
def c_oid_Decode : Con := { args := [.dat BY], res := [.own 3 I64, .dat I64], pre := fun _ => True, post := fun x y => (y.1, y.2.1) = DecD x.1 }
end Go.Proofs.YtgnlcpoeepfdoaaGreatDoor
end
section
namespace Go.Proofs.YtgnlcpoeepfdoaaGreatDoor
open Go Go.Vc Go.Pl Go.Proofs
set_option linter.unusedVariables false
set_option linter.unusedSimpArgs false
abbrev q29 := (Int × Int × Int × Int × Unit -> Unit -> Prop)
abbrev q30 := (Int × Int × Int × Int × Unit -> Unit -> Nat)
abbrev q527 (p0 : q24) (p1 : q0) := (BitVec.toNat (BitVec.ofInt (64 : Nat) (wrZ (p0.1 * (2 : Int) ^ (7 : Nat))) ||| BitVec.ofInt (64 : Nat) (wrZ (IntKind.wrap IntKind.u8 (↑(BitVec.toNat
  (BitVec.ofInt q554 (List.getD p1.1 (Int.toNat p0.2.2.2.1) q585) &&& BitVec.ofInt q554 (127 : Int))) : Int)))))
abbrev q259 (p0 : q24) (p1 : q0) := ((2147483647 : Int) < wrZ (↑(q527 p0 p1) : Int))
abbrev q260 (p0 : q24) (p1 : q0) := (↑(q527 p0 p1) : Int)
abbrev q261 (p0 : q0) := (bif decide (p0.2.1 < (lnZ p0.1)) then decide (List.getD p0.1 (Int.toNat p0.2.1) q501 = (128 : Int)) else false)
abbrev q262 (p0 : q0) := (decide (p0.2.1 < (lnZ p0.1)) == true)
def t145 : Prop :=
  ∀ (x : q0), (wyZ x.1 /\ wiZ x.2.1 /\ True) -> q56 <= x.2.1 -> (decide (x.2.1 < (lnZ x.1)) = true -> True) /\ (decide (x.2.1 < (lnZ x.1)) = true -> True) /\ (decide (x.2.1 < (lnZ x.1)) =
  true -> (q262 x) = true /\ (q262 x) = true /\ (q56 <= x.2.1 /\ x.2.1 < (lnZ x.1)) /\ True) /\ (decide (x.2.1 < (lnZ x.1)) = true -> (q262 x) = true /\ True) /\ (decide (x.2.1 < (lnZ x.1)) =
  true -> (q262 x) = true /\ True) /\ (decide (x.2.1 < (lnZ x.1)) = true -> (q262 x) = true) /\ ((q261 x) = true -> (NextD x.1 x.2.1).2.2 = (30 : Int) /\ (30 : Int) ≠ q56) /\ ((q261 x) =
  false -> ∃ (I : q29), ∃ (μ : q30), (Value.bool false = Value.bool false /\ x.1 = x.1 /\ I (q56, q56, q56, x.2.1, ()) ()) /\ ∀ (y : q24) (z : Unit), (q229 y) -> True -> I y z -> (decide
  (y.2.2.2.1 < (lnZ x.1)) = true -> q56 <= (7 : Int) /\ (q56 <= y.2.2.2.1 /\ y.2.2.2.1 < (lnZ x.1)) /\ (decide (q259 y x) = true -> (NextD x.1 x.2.1).2.2 = (31 : Int) /\ (31 : Int) ≠ q56) /\
  (decide (q259 y x) = false -> (q56 <= y.2.2.2.1 /\ y.2.2.2.1 < (lnZ x.1)) /\ (decide (List.getD x.1 (Int.toNat y.2.2.2.1) q247 < q115) = true -> NextD x.1 x.2.1 = (wrZ (q260 y x), wrZ
  (y.2.2.2.1 + q92), q56)) /\ (decide (List.getD x.1 (Int.toNat y.2.2.2.1) q247 < q115) = false -> Value.bool false = Value.bool false /\ x.1 = x.1 /\ I (wrZ (q260 y x), y.2.1, y.2.2.1, wrZ
  (y.2.2.2.1 + q92), ()) () /\ μ (wrZ (q260 y x), y.2.1, y.2.2.1, wrZ (y.2.2.2.1 + q92), ()) () < μ y z))) /\ (decide (y.2.2.2.1 < (lnZ x.1)) = false -> (NextD x.1 x.2.1).2.2 = (10 : Int) /\
  (10 : Int) ≠ q56))
theorem e145 : t145 = Con.vc c_oid_next GL (mkEnv ty [] [] [] [0, 1, 4, 5, 6, 17, 23, 36, 43]) {} Tryz.f145.ntmps Tryz.f145.results.toList (bodyOf Tryz.f145) := by kernel_rfl
theorem k145 : t145 := by
  unfold t145
  delta q0 wyZ wiZ q56 lnZ q262 q261 q29 q30 q24 q229 q259 q247 q115 wrZ q260 q92 q501 q527 q553 q554 q585
  rintro ⟨l, i, _⟩ hx hp
  have hp : 0 ≤ i := hp
  have hwl : l.length ≤ 9223372036854775807 := hx.1.1
  have hwf : Bys l := sl_bys hx.1
  try dsimp +instances only [dft_int, dft_sl, dft_str]
  simp only [true_and, and_true, eq_self_iff_true, implies_true, reduceCtorEq, false_implies, true_implies, decide_eq_true_eq, decide_eq_false_iff_not, beq_self_eq_true, Bool.not_eq_true', ne_eq, Decidable.not_not, List.nil_append, List.length_singleton, List.length_cons, List.length_nil, Nat.zero_add, Nat.add_zero, Nat.mul_one, and_self, beq_iff_eq, Bool.not_true, Bool.not_false, Bool.not_eq_false', Bool.cond_false_right, Bool.and_eq_true, imp_self, Bool.not_eq_true, Bool.cond_true_left, Bool.or_eq_true]
  refine ⟨fun h => ⟨h, h, hp, h⟩, fun h => by rw [next_30 l i h.2]; exact ⟨rfl, by decide⟩, fun h => ?_⟩
  have hne : l.getD i.toNat 0 ≠ 128 := fun e => by
    have hlt : i < l.length := by
      by_cases hi : i.toNat < l.length
      . omega
      . rw [List.getD_eq_getElem?_getD, List.getElem?_eq_none (by omega)] at e
        cases e
    rcases Bool.and_eq_false_iff.1 h with h | h
    . exact of_decide_eq_false h hlt
    . exact of_decide_eq_false h e
  have hN := next_go l i hne
  rw [hN]
  refine ⟨fun y _ => 0 ≤ y.1 ∧ y.1 ≤ 2147483647 ∧ 0 ≤ y.2.2.2.1 ∧ nextR (l.drop i.toNat) 0 i = nextR (l.drop y.2.2.2.1.toNat) y.1 y.2.2.2.1, fun y _ => ((l.length : Int) - y.2.2.2.1).toNat, ⟨by omega, by omega, hp, rfl⟩, ?_⟩
  rintro ⟨v, r1, r2, p, _⟩ z _ ⟨h0, h1, h2, h3⟩
  simp only at h0 h1 h2 h3 ⊢
  refine ⟨fun hlt => ?_, fun hge => ?_⟩
  . have hb := bys_get hwf p.toNat
    have hor := or7 v _ hb ⟨h0, h1⟩
    have hw : IntKind.wrap .i64 (p + 1) = p + 1 := by rw [IntKind.wrap_i64]; omega
    rw [hor, hw]
    rw [drop_cons l p.toNat (by omega)] at h3
    have e1 : (p + 1).toNat = p.toNat + 1 := by omega
    generalize l.getD p.toNat 0 = b at hb h3 ⊢
    have e : nextR (b :: l.drop (p.toNat + 1)) v p = if 2147483647 < v * 128 + b % 128 then (0, 0, 31) else if b < 128 then (v * 128 + b % 128, p + 1, 0) else nextR (l.drop (p.toNat + 1)) (v * 128 + b % 128) (p + 1) := rfl
    rw [e] at h3
    refine ⟨by decide, ⟨h2, hlt⟩, fun hc => by rw [h3, if_pos hc]; exact ⟨rfl, by decide⟩, fun hc => ⟨⟨h2, hlt⟩, fun hd => by rw [h3, if_neg hc, if_pos hd], fun hd => ⟨⟨by omega, by omega, by omega, ?_⟩, by omega⟩⟩⟩
    rw [e1, h3, if_neg hc, if_neg hd]
  . rw [h3, List.drop_of_length_le (by omega)]
    exact ⟨rfl, by decide⟩
theorem h145 : c_oid_next.ok Tryz.prog GL 145 := con_ok (H := {}) (mkEnv_ok (gl := GL) (l := []) (q := []) (d := []) _ tyOk (by kernel_rfl) trivial trivial trivial) (by kernel_rfl) (by kernel_rfl) (Eq.mp e145 k145)
def t146 : Prop :=
  ∀ (x : q1), (q52 x) -> q56 <= x.1 -> (40 : Int) ≠ q56 /\ [if q94 < wrZ (Int.tdiv x.1 (40 : Int)) then q94 else wrZ (Int.tdiv x.1 (40 : Int)), wrZ (x.1 - wrZ ((40 : Int) * if q94 < wrZ
  (Int.tdiv x.1 (40 : Int)) then q94 else wrZ (Int.tdiv x.1 (40 : Int))))] = SplitD x.1
theorem e146 : t146 = Con.vc c_oid_split GL (mkEnv ty [] [] [] [0, 2, 3]) {} Tryz.f146.ntmps Tryz.f146.results.toList (bodyOf Tryz.f146) := by kernel_rfl
theorem k146 : t146 := by
  unfold t146
  delta q1 q52 q56 q94 wrZ wiZ
  rintro ⟨v, _⟩ hx hp
  have hp : 0 ≤ v := hp
  have hr : v ≤ 9223372036854775807 := by
    have h : InR .i64 v := hx.1
    simp [InR, IntKind.min, IntKind.max, IntKind.signed, IntKind.bits] at h
    exact h.2
  try dsimp +instances only [dft_int, dft_sl, dft_str]
  simp only [true_and, and_true, eq_self_iff_true, implies_true, reduceCtorEq, false_implies, true_implies, decide_eq_true_eq, decide_eq_false_iff_not, beq_self_eq_true, Bool.not_eq_true', ne_eq, Decidable.not_not, List.nil_append, List.length_singleton, List.length_cons, List.length_nil, Nat.zero_add, Nat.add_zero, Nat.mul_one, and_self, beq_iff_eq, Bool.not_true, Bool.not_false, Bool.not_eq_false', Bool.cond_false_right, Bool.and_eq_true, imp_self, Bool.not_eq_true, Bool.cond_true_left, Bool.or_eq_true]
  have hw : IntKind.wrap .i64 (v.tdiv 40) = v / 40 := by rw [Int.tdiv_eq_ediv_of_nonneg hp, IntKind.wrap_i64]; omega
  refine ⟨by decide, ?_⟩
  by_cases h : 2 < IntKind.wrap .i64 (v.tdiv 40)
  . rw [if_pos h]
    rw [hw] at h
    rw [SplitD, if_neg (by omega), if_neg (by omega), wrapK (40 * 2) (by decide) (by decide), wrapM (v - 40 * 2) (by omega) (by omega)]
    rfl
  . rw [if_neg h, hw]
    rw [hw] at h
    rw [wrapK (40 * (v / 40)) (by omega) (by omega), wrapK _ (by omega) (by omega)]
    unfold SplitD
    by_cases h1 : v < 40
    . rw [if_pos h1, show v / 40 = 0 by omega]; simp
    . rw [if_neg h1]
      by_cases h2 : v < 80
      . rw [if_pos h2, show v / 40 = 1 by omega]; simp
      . rw [if_neg h2, show v / 40 = 2 by omega]; simp
theorem h146 : c_oid_split.ok Tryz.prog GL 146 := con_ok (H := {}) (mkEnv_ok (gl := GL) (l := []) (q := []) (d := []) _ tyOk (by kernel_rfl) trivial trivial trivial) (by kernel_rfl) (by kernel_rfl) (Eq.mp e146 k146)
noncomputable def i144 : DefSem := vcDef (mkEnv ty [] [] [] [0, 1, 2, 3, 4, 7, 14]) {} Tryz.f144.ntmps Tryz.f144.results.toList (bodyOf Tryz.f144)
theorem i144_ok : DefOk Tryz.prog GL 144 i144 := def_ok {} (mkEnv_ok (gl := GL) (l := []) (q := []) (d := []) _ tyOk (by kernel_rfl) trivial trivial trivial) (by kernel_rfl) (by kernel_rfl)
def t133 : Prop :=
  ∀ (x : q6), (q165 x) -> True -> q59 <= q89 /\ q59 <= q89 /\ q56 <= q56 /\ (∀ (y : q7), (q113 y) -> NextD x.1 q56 = (y.1, y.2.1, q56) -> q56 <= y.1 /\ (∀ (y_1 : q6), (Kd.wf q249 y_1.1 /\
  True) -> y_1.1 = SplitD y.1 -> ∃ (I : Int × Int × Unit -> Unit × (Int × Unit) × List Int × Unit -> Prop), ∃ (μ : Int × Int × Unit -> Unit × (Int × Unit) × List Int × Unit -> Nat), (x.1 =
  x.1 /\ I (y.2.1, y.1, ()) ((), (q56, ()), y_1.1, ())) /\ ∀ (y : q7) (z : Unit × (Int × Unit) × List Int × Unit), (q113 y) -> True /\ (wiZ z.2.1.1 /\ True) /\ (Kd.wf q249 z.2.2.1 /\ True) ->
  I y z -> (decide (y.1 < (lnZ x.1)) = true -> (decide ((lnZ z.2.2.1) = (20 : Int)) = true -> ([], (32 : Int)) = DecD x.1) /\ (decide ((lnZ z.2.2.1) = (20 : Int)) = false -> q56 <= y.1 /\ (∀
  (y_2 : q7), (q113 y_2) -> NextD x.1 y.1 = (y_2.1, y_2.2.1, q56) -> q91 < q59 /\ (List.length z.2.2.1 + List.length [y_2.1]) * q554 <= q152 /\ List.length z.2.2.1 + List.length [y_2.1] <=
  q151 /\ x.1 = x.1 /\ I (y_2.2.1, y_2.1, ()) ((), (z.2.1.1, ()), z.2.2.1 ++ [y_2.1], ()) /\ μ (y_2.2.1, y_2.1, ()) ((), (z.2.1.1, ()), z.2.2.1 ++ [y_2.1], ()) < μ y z) /\ ∀ (y_2 : q1), Kd.wf
  (Kd.pair q183 Kd.unit) y_2 -> (NextD x.1 y.1).2.2 = y_2.1 /\ y_2.1 ≠ q56 -> q59 <= q89 /\ ((([], y_2.1) = DecD x.1 /\ True) /\ True) /\ ((([], y_2.1) = DecD x.1 /\ True) /\ True) /\ True))
  /\ (decide (y.1 < (lnZ x.1)) = false -> (z.2.2.1, q56) = DecD x.1)) /\ True) /\ ∀ (y : q1), Kd.wf (Kd.pair q183 Kd.unit) y -> (NextD x.1 q56).2.2 = y.1 /\ y.1 ≠ q56 -> q59 <= q89 /\ ((([],
  y.1) = DecD x.1 /\ True) /\ True) /\ ((([], y.1) = DecD x.1 /\ True) /\ True) /\ True
theorem e133 : t133 = Con.vc c_oid_Decode GL (mkEnv ty [(145, conSem c_oid_next), (146, conSem c_oid_split)] [] [(144, i144)] [0, 2, 3, 4, 5, 17, 20]) {} Tryz.f133.ntmps Tryz.f133.results.toList (bodyOf Tryz.f133) := by kernel_rfl
theorem k133 : t133 := by
  unfold t133
  delta q6 q165 q59 q89 q56 q7 q113 q249 wiZ lnZ q91 q554 q152 q151 q1 q183 wyZ q566
  rintro ⟨l, _⟩ hx hp
  have hwf : Bys l := sl_bys hx.1
  try dsimp +instances only [dft_int, dft_sl, dft_str]
  simp only [true_and, and_true, eq_self_iff_true, implies_true, reduceCtorEq, false_implies, true_implies, decide_eq_true_eq, decide_eq_false_iff_not, beq_self_eq_true, Bool.not_eq_true', ne_eq, Decidable.not_not, List.nil_append, List.length_singleton, List.length_cons, List.length_nil, Nat.zero_add, Nat.add_zero, Nat.mul_one, and_self, beq_iff_eq, Bool.not_true, Bool.not_false, Bool.not_eq_false', Bool.cond_false_right, Bool.and_eq_true, imp_self, Bool.not_eq_true, Bool.cond_true_left, Bool.or_eq_true]
  refine ⟨by decide, by decide, by decide, ?_, ?_⟩
  . rintro ⟨x, j, _⟩ _ e
    simp only at e ⊢
    have hok := next_ok hwf 0 (by decide) (by rw [e])
    rw [e] at hok
    simp only at hok
    refine ⟨hok.1, ?_⟩
    rintro ⟨s, _⟩ _ es
    simp only at es ⊢
    have hD : DecD l = decR l l.length (SplitD x) j := by rw [DecD, e, if_neg (by simp)]
    refine ⟨fun y z => 0 ≤ y.1 ∧ z.2.2.1.length ≤ 20 ∧ ∃ n : Nat, (l.length : Int) - y.1 ≤ n ∧ DecD l = decR l n z.2.2.1 y.1, fun y _ => ((l.length : Int) - y.1).toNat, ⟨by omega, by rw [es, splitD_len]; decide, l.length, by omega, by rw [es]; exact hD⟩, ?_⟩
    rintro ⟨i, v, _⟩ ⟨_, ⟨c, _⟩, acc, _⟩ _ _ ⟨h0, h20, n, hn, hd⟩
    simp only at h0 h20 hn hd ⊢
    refine ⟨fun hlt => ?_, fun hge => ?_⟩
    . obtain ⟨m, rfl⟩ : ∃ m, n = m + 1 := ⟨n - 1, by omega⟩
      rw [dec_step l m acc i hlt] at hd
      refine ⟨fun h => by rw [hd, if_pos (by omega)], fun h => ⟨h0, ?_, ?_⟩⟩
      . rintro ⟨x', j', _⟩ _ e'
        simp only at e' ⊢
        have hok' := next_ok hwf i h0 (by rw [e'])
        rw [e'] at hok'
        simp only at hok'
        rw [if_neg (by omega), e', if_neg (by simp)] at hd
        exact ⟨by decide, by omega, by omega, ⟨by omega, by simp; omega, m, by omega, hd⟩, by omega⟩
      . rintro ⟨q, _⟩ _ ⟨h1, h2⟩
        simp only at h1 h2 ⊢
        exact ⟨by decide, by rw [hd, if_neg (by omega), if_pos (by rw [h1]; exact h2), h1]⟩
    . rw [hd, dec_end l n acc i hge]
  . rintro ⟨q, _⟩ _ ⟨h1, h2⟩
    simp only at h1 h2 ⊢
    exact ⟨by decide, by rw [DecD, if_pos (by rw [h1]; exact h2), h1]⟩
theorem h133 : c_oid_Decode.ok Tryz.prog GL 133 := con_ok (H := {}) (mkEnv_ok (gl := GL) (l := [(145, conSem c_oid_next), (146, conSem c_oid_split)]) (q := []) (d := [(144, i144)]) _ tyOk (by kernel_rfl) ⟨h145.call, h146.call, trivial⟩ trivial ⟨i144_ok, trivial⟩) (by kernel_rfl) (by kernel_rfl) (Eq.mp e133 k133)
end Go.Proofs.YtgnlcpoeepfdoaaGreatDoor
end
