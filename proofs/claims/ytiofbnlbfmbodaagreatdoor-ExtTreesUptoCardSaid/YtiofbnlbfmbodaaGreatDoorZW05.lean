/- Texts of a verified walk, led together: OiddA, OiddW. -/
import Derived.Test.YtiofbnlbfmbodaaGreatDoorZW04
import Derived.Test.YtiofbnlbfmbodaaGreatDoorZV11
set_option linter.unusedVariables false
set_option linter.unusedSimpArgs false
section
namespace Go.Proofs.YtiofbnlbfmbodaaGreatDoor
open Go Go.Vc Go.Pl Go.Proofs
def c_oid_next : Con := { args := [.dat BY, .dat I64], res := [.dat I64, .dat I64], pre := fun x => 0 ≤ x.2.1, post := fun x y => NextD x.1 x.2.1 = (y.1, y.2.1, 0), pan := true, pt := 198, pk := .pair I64 .unit, ppost := fun x e => (NextD x.1 x.2.1).2.2 = e.1 ∧ e.1 ≠ 0 }
def c_oid_split : Con := { args := [.dat I64], res := [.own 3 I64], pre := fun x => 0 ≤ x.1, post := fun x y => y.1 = SplitD x.1 }
def c_oid_Decode : Con := { args := [.dat BY], res := [.own 3 I64, .dat I64], pre := fun _ => True, post := fun x y => (y.1, y.2.1) = DecD x.1 }
end Go.Proofs.YtiofbnlbfmbodaaGreatDoor
end
section
namespace Go.Proofs.YtiofbnlbfmbodaaGreatDoor
open Go Go.Vc Go.Pl Go.Proofs
set_option linter.unusedVariables false
set_option linter.unusedSimpArgs false
abbrev q453 (p0 : q18) (p1 : q0) := (BitVec.toNat (BitVec.ofInt (64 : Nat) (wrZ (p0.1 * (2 : Int) ^ (7 : Nat))) ||| BitVec.ofInt (64 : Nat) (wrZ (IntKind.wrap IntKind.u8 (↑(BitVec.toNat
  (BitVec.ofInt q480 (List.getD p1.1 (Int.toNat p0.2.2.2.1) q511) &&& BitVec.ofInt q480 (127 : Int))) : Int)))))
abbrev q218 (p0 : q18) (p1 : q0) := ((2147483647 : Int) < wrZ (↑(q453 p0 p1) : Int))
abbrev q219 (p0 : q18) (p1 : q0) := (↑(q453 p0 p1) : Int)
abbrev q220 (p0 : q0) := (bif decide (p0.2.1 < (lnZ p0.1)) then decide (List.getD p0.1 (Int.toNat p0.2.1) q429 = q487) else false)
abbrev q221 (p0 : q0) := (decide (p0.2.1 < (lnZ p0.1)) == true)
abbrev q222 (p0 : q0) := (wyZ p0.1 /\ wiZ p0.2.1 /\ True)
def t153 : Prop :=
  ∀ (x : q0), (q222 x) -> q40 <= x.2.1 -> (decide (x.2.1 < (lnZ x.1)) = true -> True) /\ (decide (x.2.1 < (lnZ x.1)) = true -> True) /\ (decide (x.2.1 < (lnZ x.1)) = true -> (q221 x) = true
  /\ (q221 x) = true /\ (q40 <= x.2.1 /\ x.2.1 < (lnZ x.1)) /\ True) /\ (decide (x.2.1 < (lnZ x.1)) = true -> (q221 x) = true /\ True) /\ (decide (x.2.1 < (lnZ x.1)) = true -> (q221 x) = true
  /\ True) /\ (decide (x.2.1 < (lnZ x.1)) = true -> (q221 x) = true) /\ ((q220 x) = true -> (NextD x.1 x.2.1).2.2 = (30 : Int) /\ (30 : Int) ≠ q40) /\ ((q220 x) = false -> ∃ (I : Int × Int ×
  Int × Int × Unit -> Unit -> Prop), ∃ (μ : Int × Int × Int × Int × Unit -> Unit -> Nat), (Value.bool false = Value.bool false /\ x.1 = x.1 /\ I (q40, q40, q40, x.2.1, ()) ()) /\ ∀ (y : q18)
  (z : Unit), (q186 y) -> True -> I y z -> (decide (y.2.2.2.1 < (lnZ x.1)) = true -> q40 <= (7 : Int) /\ (q40 <= y.2.2.2.1 /\ y.2.2.2.1 < (lnZ x.1)) /\ (decide (q218 y x) = true -> (NextD x.1
  x.2.1).2.2 = (31 : Int) /\ (31 : Int) ≠ q40) /\ (decide (q218 y x) = false -> (q40 <= y.2.2.2.1 /\ y.2.2.2.1 < (lnZ x.1)) /\ (decide (List.getD x.1 (Int.toNat y.2.2.2.1) q205 < q96) = true
  -> NextD x.1 x.2.1 = (wrZ (q219 y x), wrZ (y.2.2.2.1 + q72), q40)) /\ (decide (List.getD x.1 (Int.toNat y.2.2.2.1) q205 < q96) = false -> Value.bool false = Value.bool false /\ x.1 = x.1 /\
  I (wrZ (q219 y x), y.2.1, y.2.2.1, wrZ (y.2.2.2.1 + q72), ()) () /\ μ (wrZ (q219 y x), y.2.1, y.2.2.1, wrZ (y.2.2.2.1 + q72), ()) () < μ y z))) /\ (decide (y.2.2.2.1 < (lnZ x.1)) = false ->
  (NextD x.1 x.2.1).2.2 = (10 : Int) /\ (10 : Int) ≠ q40))
theorem e153 : t153 = Con.vc c_oid_next GL (mkEnv ty [] [] [] [0, 1, 4, 5, 6, 17, 23, 36, 43]) {} Tryz.f153.ntmps Tryz.f153.results.toList (bodyOf Tryz.f153) := by kernel_rfl
theorem k153 : t153 := by
  unfold t153
  delta q0 q222 q40 lnZ q221 q220 q18 q186 q218 q205 q96 wrZ q219 q72 wyZ wiZ q429 q487 q453 q488 q480 q511
  rintro ⟨l, i, _⟩ hx hp
  have hp : 0 ≤ i := hp
  have hwl : l.length ≤ 9223372036854775807 := hx.1.1
  have hwf : Bys l := sl_bys hx.1
  try dsimp +instances only [dft_int, dft_sl, dft_str]
  simp only [true_and, and_true, eq_self_iff_true, implies_true, reduceCtorEq, false_implies, true_implies, decide_eq_true_eq, decide_eq_false_iff_not, beq_self_eq_true, Bool.not_eq_true', ne_eq, Decidable.not_not, List.nil_append, List.length_singleton, List.length_cons, List.length_nil, Nat.zero_add, Nat.add_zero, Nat.mul_one, and_self, beq_iff_eq, Bool.not_true, Bool.not_false, Bool.not_eq_false', Bool.cond_false_right, Bool.and_eq_true, imp_self, Bool.not_eq_true, Bool.cond_true_left, Bool.or_eq_true]
  refine ⟨fun h => ⟨h, h, hp, h⟩, fun h => by rw [next_30 l i h.2]; exact ⟨rfl, by decide⟩, fun h => ?_⟩
  have hne : l.getD i.toNat 0 ≠ 128 := fun e => by
    have hlt : i < l.length := by
      by_cases hi : i.toNat < l.length
      . omega
      . rw [List.getD_eq_getElem?_getD, List.getElem?_eq_none (by omega)] at e
        cases e
    rcases Bool.and_eq_false_iff.1 h with h | h
    . exact of_decide_eq_false h hlt
    . exact of_decide_eq_false h e
  have hN := next_go l i hne
  rw [hN]
  refine ⟨fun y _ => 0 ≤ y.1 ∧ y.1 ≤ 2147483647 ∧ 0 ≤ y.2.2.2.1 ∧ nextR (l.drop i.toNat) 0 i = nextR (l.drop y.2.2.2.1.toNat) y.1 y.2.2.2.1, fun y _ => ((l.length : Int) - y.2.2.2.1).toNat, ⟨by omega, by omega, hp, rfl⟩, ?_⟩
  rintro ⟨v, r1, r2, p, _⟩ z _ ⟨h0, h1, h2, h3⟩
  simp only at h0 h1 h2 h3 ⊢
  refine ⟨fun hlt => ?_, fun hge => ?_⟩
  . have hb := bys_get hwf p.toNat
    have hor := or7 v _ hb ⟨h0, h1⟩
    have hw : IntKind.wrap .i64 (p + 1) = p + 1 := by rw [IntKind.wrap_i64]; omega
    rw [hor, hw]
    rw [drop_cons l p.toNat (by omega)] at h3
    have e1 : (p + 1).toNat = p.toNat + 1 := by omega
    generalize l.getD p.toNat 0 = b at hb h3 ⊢
    have e : nextR (b :: l.drop (p.toNat + 1)) v p = if 2147483647 < v * 128 + b % 128 then (0, 0, 31) else if b < 128 then (v * 128 + b % 128, p + 1, 0) else nextR (l.drop (p.toNat + 1)) (v * 128 + b % 128) (p + 1) := rfl
    rw [e] at h3
    refine ⟨by decide, ⟨h2, hlt⟩, fun hc => by rw [h3, if_pos hc]; exact ⟨rfl, by decide⟩, fun hc => ⟨⟨h2, hlt⟩, fun hd => by rw [h3, if_neg hc, if_pos hd], fun hd => ⟨⟨by omega, by omega, by omega, ?_⟩, by omega⟩⟩⟩
    rw [e1, h3, if_neg hc, if_neg hd]
  . rw [h3, List.drop_of_length_le (by omega)]
    exact ⟨rfl, by decide⟩
theorem h153 : c_oid_next.ok Tryz.prog GL 153 := con_ok (H := {}) (mkEnv_ok (gl := GL) (l := []) (q := []) (d := []) _ tyOk (by kernel_rfl) trivial trivial trivial) (by kernel_rfl) (by kernel_rfl) (Eq.mp e153 k153)
def t154 : Prop :=
  ∀ (x : q1), (q36 x) -> q40 <= x.1 -> (40 : Int) ≠ q40 /\ [if q75 < wrZ (Int.tdiv x.1 (40 : Int)) then q75 else wrZ (Int.tdiv x.1 (40 : Int)), wrZ (x.1 - wrZ ((40 : Int) * if q75 < wrZ
  (Int.tdiv x.1 (40 : Int)) then q75 else wrZ (Int.tdiv x.1 (40 : Int))))] = SplitD x.1
theorem e154 : t154 = Con.vc c_oid_split GL (mkEnv ty [] [] [] [0, 2, 3]) {} Tryz.f154.ntmps Tryz.f154.results.toList (bodyOf Tryz.f154) := by kernel_rfl
theorem k154 : t154 := by
  unfold t154
  delta q1 q36 q40 q75 wrZ wiZ
  rintro ⟨v, _⟩ hx hp
  have hp : 0 ≤ v := hp
  have hr : v ≤ 9223372036854775807 := by
    have h : InR .i64 v := hx.1
    simp [InR, IntKind.min, IntKind.max, IntKind.signed, IntKind.bits] at h
    exact h.2
  try dsimp +instances only [dft_int, dft_sl, dft_str]
  simp only [true_and, and_true, eq_self_iff_true, implies_true, reduceCtorEq, false_implies, true_implies, decide_eq_true_eq, decide_eq_false_iff_not, beq_self_eq_true, Bool.not_eq_true', ne_eq, Decidable.not_not, List.nil_append, List.length_singleton, List.length_cons, List.length_nil, Nat.zero_add, Nat.add_zero, Nat.mul_one, and_self, beq_iff_eq, Bool.not_true, Bool.not_false, Bool.not_eq_false', Bool.cond_false_right, Bool.and_eq_true, imp_self, Bool.not_eq_true, Bool.cond_true_left, Bool.or_eq_true]
  have hw : IntKind.wrap .i64 (v.tdiv 40) = v / 40 := by rw [Int.tdiv_eq_ediv_of_nonneg hp, IntKind.wrap_i64]; omega
  refine ⟨by decide, ?_⟩
  by_cases h : 2 < IntKind.wrap .i64 (v.tdiv 40)
  . rw [if_pos h]
    rw [hw] at h
    rw [SplitD, if_neg (by omega), if_neg (by omega), wrapK (40 * 2) (by decide) (by decide), wrapM (v - 40 * 2) (by omega) (by omega)]
    rfl
  . rw [if_neg h, hw]
    rw [hw] at h
    rw [wrapK (40 * (v / 40)) (by omega) (by omega), wrapK _ (by omega) (by omega)]
    unfold SplitD
    by_cases h1 : v < 40
    . rw [if_pos h1, show v / 40 = 0 by omega]; simp
    . rw [if_neg h1]
      by_cases h2 : v < 80
      . rw [if_pos h2, show v / 40 = 1 by omega]; simp
      . rw [if_neg h2, show v / 40 = 2 by omega]; simp
theorem h154 : c_oid_split.ok Tryz.prog GL 154 := con_ok (H := {}) (mkEnv_ok (gl := GL) (l := []) (q := []) (d := []) _ tyOk (by kernel_rfl) trivial trivial trivial) (by kernel_rfl) (by kernel_rfl) (Eq.mp e154 k154)
noncomputable def i152 : DefSem := vcDef (mkEnv ty [] [] [] [0, 1, 2, 3, 4, 7, 14]) {} Tryz.f152.ntmps Tryz.f152.results.toList (bodyOf Tryz.f152)
theorem i152_ok : DefOk Tryz.prog GL 152 i152 := def_ok {} (mkEnv_ok (gl := GL) (l := []) (q := []) (d := []) _ tyOk (by kernel_rfl) trivial trivial trivial) (by kernel_rfl) (by kernel_rfl)
def t113 : Prop :=
  ∀ (x : q5), (q160 x) -> True -> q42 <= q69 /\ q42 <= q69 /\ q40 <= q40 /\ (∀ (y : q6), (q94 y) -> NextD x.1 q40 = (y.1, y.2.1, q40) -> q40 <= y.1 /\ (∀ (y_1 : q5), (Kd.wf q206 y_1.1 /\
  True) -> y_1.1 = SplitD y.1 -> ∃ (I : Int × Int × Unit -> Unit × (Int × Unit) × List Int × Unit -> Prop), ∃ (μ : Int × Int × Unit -> Unit × (Int × Unit) × List Int × Unit -> Nat), (x.1 =
  x.1 /\ I (y.2.1, y.1, ()) ((), (q40, ()), y_1.1, ())) /\ ∀ (y : q6) (z : Unit × (Int × Unit) × List Int × Unit), (q94 y) -> True /\ (wiZ z.2.1.1 /\ True) /\ (Kd.wf q206 z.2.2.1 /\ True) ->
  I y z -> (decide (y.1 < (lnZ x.1)) = true -> (decide ((lnZ z.2.2.1) = (20 : Int)) = true -> ([], (32 : Int)) = DecD x.1) /\ (decide ((lnZ z.2.2.1) = (20 : Int)) = false -> q40 <= y.1 /\ (∀
  (y_2 : q6), (q94 y_2) -> NextD x.1 y.1 = (y_2.1, y_2.2.1, q40) -> q71 < q42 /\ (List.length z.2.2.1 + List.length [y_2.1]) * q480 <= q159 /\ List.length z.2.2.1 + List.length [y_2.1] <=
  q158 /\ x.1 = x.1 /\ I (y_2.2.1, y_2.1, ()) ((), (z.2.1.1, ()), z.2.2.1 ++ [y_2.1], ()) /\ μ (y_2.2.1, y_2.1, ()) ((), (z.2.1.1, ()), z.2.2.1 ++ [y_2.1], ()) < μ y z) /\ ∀ (y_2 : q1), Kd.wf
  (Kd.pair q140 Kd.unit) y_2 -> (NextD x.1 y.1).2.2 = y_2.1 /\ y_2.1 ≠ q40 -> q42 <= q69 /\ ((([], y_2.1) = DecD x.1 /\ True) /\ True) /\ ((([], y_2.1) = DecD x.1 /\ True) /\ True) /\ True))
  /\ (decide (y.1 < (lnZ x.1)) = false -> (z.2.2.1, q40) = DecD x.1)) /\ True) /\ ∀ (y : q1), Kd.wf (Kd.pair q140 Kd.unit) y -> (NextD x.1 q40).2.2 = y.1 /\ y.1 ≠ q40 -> q42 <= q69 /\ ((([],
  y.1) = DecD x.1 /\ True) /\ True) /\ ((([], y.1) = DecD x.1 /\ True) /\ True) /\ True
theorem e113 : t113 = Con.vc c_oid_Decode GL (mkEnv ty [(153, conSem c_oid_next), (154, conSem c_oid_split)] [] [(152, i152)] [0, 2, 3, 4, 5, 17, 20]) {} Tryz.f113.ntmps Tryz.f113.results.toList (bodyOf Tryz.f113) := by kernel_rfl
theorem k113 : t113 := by
  unfold t113
  delta q5 q160 q42 q69 q40 q6 q94 q206 wiZ lnZ q71 q480 q159 q158 q1 q140 wyZ q494
  rintro ⟨l, _⟩ hx hp
  have hwf : Bys l := sl_bys hx.1
  try dsimp +instances only [dft_int, dft_sl, dft_str]
  simp only [true_and, and_true, eq_self_iff_true, implies_true, reduceCtorEq, false_implies, true_implies, decide_eq_true_eq, decide_eq_false_iff_not, beq_self_eq_true, Bool.not_eq_true', ne_eq, Decidable.not_not, List.nil_append, List.length_singleton, List.length_cons, List.length_nil, Nat.zero_add, Nat.add_zero, Nat.mul_one, and_self, beq_iff_eq, Bool.not_true, Bool.not_false, Bool.not_eq_false', Bool.cond_false_right, Bool.and_eq_true, imp_self, Bool.not_eq_true, Bool.cond_true_left, Bool.or_eq_true]
  refine ⟨by decide, by decide, by decide, ?_, ?_⟩
  . rintro ⟨x, j, _⟩ _ e
    simp only at e ⊢
    have hok := next_ok hwf 0 (by decide) (by rw [e])
    rw [e] at hok
    simp only at hok
    refine ⟨hok.1, ?_⟩
    rintro ⟨s, _⟩ _ es
    simp only at es ⊢
    have hD : DecD l = decR l l.length (SplitD x) j := by rw [DecD, e, if_neg (by simp)]
    refine ⟨fun y z => 0 ≤ y.1 ∧ z.2.2.1.length ≤ 20 ∧ ∃ n : Nat, (l.length : Int) - y.1 ≤ n ∧ DecD l = decR l n z.2.2.1 y.1, fun y _ => ((l.length : Int) - y.1).toNat, ⟨by omega, by rw [es, splitD_len]; decide, l.length, by omega, by rw [es]; exact hD⟩, ?_⟩
    rintro ⟨i, v, _⟩ ⟨_, ⟨c, _⟩, acc, _⟩ _ _ ⟨h0, h20, n, hn, hd⟩
    simp only at h0 h20 hn hd ⊢
    refine ⟨fun hlt => ?_, fun hge => ?_⟩
    . obtain ⟨m, rfl⟩ : ∃ m, n = m + 1 := ⟨n - 1, by omega⟩
      rw [dec_step l m acc i hlt] at hd
      refine ⟨fun h => by rw [hd, if_pos (by omega)], fun h => ⟨h0, ?_, ?_⟩⟩
      . rintro ⟨x', j', _⟩ _ e'
        simp only at e' ⊢
        have hok' := next_ok hwf i h0 (by rw [e'])
        rw [e'] at hok'
        simp only at hok'
        rw [if_neg (by omega), e', if_neg (by simp)] at hd
        exact ⟨by decide, by omega, by omega, ⟨by omega, by simp; omega, m, by omega, hd⟩, by omega⟩
      . rintro ⟨q, _⟩ _ ⟨h1, h2⟩
        simp only at h1 h2 ⊢
        exact ⟨by decide, by rw [hd, if_neg (by omega), if_pos (by rw [h1]; exact h2), h1]⟩
    . rw [hd, dec_end l n acc i hge]
  . rintro ⟨q, _⟩ _ ⟨h1, h2⟩
    simp only at h1 h2 ⊢
    exact ⟨by decide, by rw [DecD, if_pos (by rw [h1]; exact h2), h1]⟩
theorem h113 : c_oid_Decode.ok Tryz.prog GL 113 := con_ok (H := {}) (mkEnv_ok (gl := GL) (l := [(153, conSem c_oid_next), (154, conSem c_oid_split)]) (q := []) (d := [(152, i152)]) _ tyOk (by kernel_rfl) ⟨h153.call, h154.call, trivial⟩ trivial ⟨i152_ok, trivial⟩) (by kernel_rfl) (by kernel_rfl) (Eq.mp e113 k113)
end Go.Proofs.YtiofbnlbfmbodaaGreatDoor
end
