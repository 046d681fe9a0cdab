/- Texts of a verified walk, led together: QWithinA, QWithinW, QLaw14aA, QLaw14aW, QGlok12A, QGlok12W. -/
import Derived.Test.YtbdfeddakniaeaaDoorZW02
import Derived.Test.YtbdfeddakniaeaaDoorZV08
import Derived.Test.YtbdfeddakniaeaaDoorRows
set_option linter.unusedVariables false
set_option linter.unusedSimpArgs false
section
namespace Go.Proofs.YtbdfeddakniaeaaDoor
open Go Go.Vc Go.Pl Go.Proofs
def c_within_small_1 : Con := { args := [.dat (.int .i32)], res := [.dat (.int .i32)], pre := fun _ => True, post := fun x y => y.1 = smallD x.1 }
def c_strings_Map : Con := { args := [Kd.fn, Kd.str].map .dat, res := [Kd.str].map .dat, pre := fun x => x.1 = (109 : Nat) + 1 ∧ x.2.1.length ≤ 1000000000 ∧ ∀ c ∈ x.2.1, c < 128, post := fun x y => y.1 = lowD x.2.1 }
def c_within_small : Con := { args := [.dat .str], res := [.dat .str], pre := fun x => x.1.length ≤ 1000000000 ∧ ∀ c ∈ x.1, c < 128, post := fun x y => y.1 = lowD x.1 }
def c_stringslite_HasSuffix : Con := { args := [.dat .str, .dat .str], res := [.dat .bool], pre := fun _ => True, post := fun x y => y.1 = sufD x.2.1 x.1 }
def c_strings_HasSuffix : Con := { args := [.dat .str, .dat .str], res := [.dat .bool], pre := fun _ => True, post := fun x y => y.1 = sufD x.2.1 x.1 }
def c_within_Below : Con := { args := [.dat .str, .dat .str], res := [.dat .bool], pre := fun x => x.1.length ≤ 1000000000 ∧ x.2.1.length ≤ 1000000000, post := fun x y => y.1 = belowD x.1 x.2.1 }
end Go.Proofs.YtbdfeddakniaeaaDoor
end
section
namespace Go.Proofs.YtbdfeddakniaeaaDoor
open Go Go.Vc Go.Pl Go.Proofs
set_option linter.unusedVariables false
set_option linter.unusedSimpArgs false
def t109 : Prop :=
  ∀ (x : Int × Unit), (Kd.wf (Kd.int IntKind.i32) x.1 /\ True) -> True -> (decide ((65 : Int) <= x.1) = true -> True) /\ (decide ((65 : Int) <= x.1) = true -> (decide ((65 : Int) <= x.1) ==
  true) = true /\ True) /\ (decide ((65 : Int) <= x.1) = true -> (decide ((65 : Int) <= x.1) == true) = true) /\ ((bif decide ((65 : Int) <= x.1) then decide (x.1 <= (90 : Int)) else false) =
  true -> IntKind.wrap IntKind.i32 (IntKind.wrap IntKind.i32 (x.1 + (97 : Int)) - (65 : Int)) = smallD x.1) /\ ((bif decide ((65 : Int) <= x.1) then decide (x.1 <= (90 : Int)) else false) =
  false -> x.1 = smallD x.1)
theorem e109 : t109 = Con.vc c_within_small_1 GL (mkEnv ty [] [] [] [0, 2, 8]) {} Tryd.f109.ntmps Tryd.f109.results.toList (bodyOf Tryd.f109) := by kernel_rfl
theorem k109 : t109 := by
  unfold t109
  rintro ⟨r, _⟩ hx hp
  have hr : -2147483648 ≤ r ∧ r ≤ 2147483647 := by
    have h : InR .i32 r := hx.1
    simpa [InR, IntKind.min, IntKind.max, IntKind.signed, IntKind.bits] using h
  try dsimp +instances only [dft_int, dft_sl, dft_str]
  simp only [true_and, and_true, eq_self_iff_true, implies_true, reduceCtorEq, false_implies, true_implies, decide_eq_true_eq, decide_eq_false_iff_not, beq_self_eq_true, Bool.not_eq_true', ne_eq, Decidable.not_not, List.nil_append, List.length_singleton, List.length_cons, List.length_nil, Nat.zero_add, Nat.add_zero, Nat.mul_one, and_self, beq_iff_eq, Bool.not_true, Bool.not_false, Bool.not_eq_false', Bool.cond_false_right, Bool.and_eq_true, imp_self, Bool.not_eq_true, Bool.cond_true_left, Bool.or_eq_true]
  have w32 (x : Int) (h0 : -2147483648 ≤ x) (h1 : x ≤ 2147483647) : IntKind.wrap .i32 x = x := by
    simp [IntKind.wrap, IntKind.signed, IntKind.bits]
    split <;> omega
  refine ⟨fun h => ?_, fun h => ?_⟩
  . rw [w32 (r + 97) (by omega) (by omega), w32 _ (by omega) (by omega), smallD, if_pos h]; omega
  . rw [smallD, if_neg]
    simp at h
    omega
theorem h109 : c_within_small_1.ok Tryd.prog GL 109 := con_ok (H := {}) (mkEnv_ok (gl := GL) (l := []) (q := []) (d := []) _ tyOk (by kernel_rfl) trivial trivial trivial) (by kernel_rfl) (by kernel_rfl) (Eq.mp e109 k109)
theorem h108 : c_strings_Map.ok Tryd.prog GL 108 := by
  refine lib_ok (ks := [Kd.fn, Kd.str]) (rs := [Kd.str]) Tryd.func108 (by kernel_rfl) (by decide) ?_
  rintro w F ⟨g, l, u⟩ vs h hg hp
  obtain ⟨v1, r1, rfl, h1, v2, r2, rfl, h2, rfl⟩ := h
  obtain ⟨s, rfl, rfl, hs⟩ := VRep_str.1 h2
  obtain ⟨hp1, hp2, hp3⟩ := hp
  simp only at hp1 hp2 hp3
  rw [bs_length] at hp2
  have hv : v1 = .func (.func 109) #[] #[] := by
    obtain ⟨cs, hr, hc⟩ := h1
    have hc : cs = [v1] := hc
    rw [hp1] at hr
    rcases hr with ⟨e, _⟩ | ⟨n, e, hcs⟩
    . cases e
    . have e : (109 + 1 : Nat) = n + 1 := e
      have : n = 109 := by omega
      subst this
      rw [hc] at hcs
      exact (List.cons.inj hcs).1
  subst hv
  have hf : MapGrows Tryd.prog 109 #[] smallD w := by
    intro W x hx hb
    have hno : ∀ b, ¬ ownBlk [AK.dat (.int .i32)] [.int .i32 x] b := by
      rintro b ⟨v, hv, _⟩
      cases hv
    have hgW : GlOk GL W (fun b => False ∨ ownBlk [AK.dat (.int .i32)] [.int .i32 x] b) := hg.step hb.size (fun b hb' _ => hb.block b hb') (fun b _ h => (h.resolve_left id |> hno b).elim)
    have hr := h109.holds W (fun _ => False) (((x : Int), ()) : ATup [AK.dat (.int .i32)]) [.int .i32 x] (fun b hb => hb.elim) hgW ⟨_, _, rfl, VRep_int.2 ⟨rfl, by simp [InR, IntKind.min, IntKind.max, IntKind.signed, IntKind.bits]; omega⟩, rfl⟩ (fun i j v u b hi => by have hi : (none : Option Value) = some v := hi; cases hi) trivial
    refine Calls.mono hr fun e w' he => ?_
    rcases he with ⟨us, y, rfl, hy, hk, hR, _⟩ | ⟨hp, _⟩
    . obtain ⟨v, r, rfl, hv, hr⟩ := hR
      obtain rfl : r = [] := hr
      obtain ⟨rfl, _⟩ := VRep_int.1 hv
      have hy : y.1 = smallD x := hy
      exact ⟨by rw [← hy]; rfl, hk.os, hk.tape, hk.output, hk.size, fun b hb => hk.block b hb (hno b)⟩
    . cases hp
  refine Calls.mono (Tryd.strings_Map_grows 109 #[] (fun args w => fn_enter (body := bodyOf Tryd.f109) Tryd.func109 (by kernel_rfl) (by kernel_rfl) args w) smallD s w (by omega) hf (fun x hx => by unfold smallD; split <;> omega) (utf8_gl hg rfl rfl)) ?_
  rintro e w' ⟨rfl, hb⟩
  refine ⟨⟨hb.os, hb.tape, hb.output, hb.size, fun b hb' _ => hb.block b hb'⟩, [_], (lowD (bs s), ()), rfl, rfl, _, _, rfl, VRep_str.2 ⟨_, rfl, map_low_bs s hp3, ?_⟩, rfl⟩
  have := congrArg List.length (map_low_bs s hp3)
  rw [bs_length, low_len, bs_length] at this
  omega
def t51 : Prop :=
  ∀ (x : q3), (wsZ x.1 /\ True) -> (List.length x.1 <= q25 /\ ∀ (c : Int), c ∈ x.1 -> c < (128 : Int)) -> ((110 : Nat) = (110 : Nat) /\ List.length x.1 <= q25 /\ ∀ (c : Int), c ∈ x.1 -> c <
  (128 : Int)) /\ (∀ (y : q3), (wsZ y.1 /\ True) -> y.1 = lowD x.1 -> y.1 = lowD x.1) /\ True
theorem e51 : t51 = Con.vc c_within_small GL (mkEnv ty [(108, conSem c_strings_Map)] [] [] [0, 2]) {} Tryd.f51.ntmps Tryd.f51.results.toList (bodyOf Tryd.f51) := by kernel_rfl
theorem k51 : t51 := by
  unfold t51
  delta q3 wsZ q25
  rintro ⟨s, _⟩ hx hp
  try dsimp +instances only [dft_int, dft_sl, dft_str]
  simp only [true_and, and_true, eq_self_iff_true, implies_true, reduceCtorEq, false_implies, true_implies, decide_eq_true_eq, decide_eq_false_iff_not, beq_self_eq_true, Bool.not_eq_true', ne_eq, Decidable.not_not, List.nil_append, List.length_singleton, List.length_cons, List.length_nil, Nat.zero_add, Nat.add_zero, Nat.mul_one, and_self, beq_iff_eq, Bool.not_true, Bool.not_false, Bool.not_eq_false', Bool.cond_false_right, Bool.and_eq_true, imp_self, Bool.not_eq_true, Bool.cond_true_left, Bool.or_eq_true]
  exact hp
theorem h51 : c_within_small.ok Tryd.prog GL 51 := con_ok (H := {}) (mkEnv_ok (gl := GL) (l := [(108, conSem c_strings_Map)]) (q := []) (d := []) _ tyOk (by kernel_rfl) ⟨h108.call, trivial⟩ trivial trivial) (by kernel_rfl) (by kernel_rfl) (Eq.mp e51 k51)
def t110 : Prop :=
  ∀ (x : q0), (q5 x) -> True -> (q11 x) /\ (q11 x) /\ (q10 x) /\ (q11 x) /\ (q10 x) /\ (q9 x) /\ (decide (q35 x) = true -> (q12 x) = true /\ (q12 x) = true /\ (q7 <= wrZ ((lnZ x.1) - (lnZ
  x.2.1)) /\ wrZ ((lnZ x.1) - (lnZ x.2.1)) <= (lnZ x.1)) /\ True) /\ (q11 x) /\ (q9 x) /\ (decide (q35 x) = true -> (q12 x) = true) /\ (bif decide (q35 x) then decide (List.drop (Int.toNat
  (wrZ ((lnZ x.1) - (lnZ x.2.1)))) x.1 = x.2.1) else false) = sufD x.2.1 x.1
theorem e110 : t110 = Con.vc c_stringslite_HasSuffix GL (mkEnv ty [] [] [] [0, 1, 4]) {} Tryd.f110.ntmps Tryd.f110.results.toList (bodyOf Tryd.f110) := by kernel_rfl
theorem k110 : t110 := by
  unfold t110
  delta q0 q5 q11 q10 q9 q35 q12 q7 wrZ lnZ wsZ
  rintro ⟨l, c, _⟩ hx hp
  have hl : l.length ≤ 9223372036854775807 := hx.1.1
  try dsimp +instances only [dft_int, dft_sl, dft_str]
  simp only [true_and, and_true, eq_self_iff_true, implies_true, reduceCtorEq, false_implies, true_implies, decide_eq_true_eq, decide_eq_false_iff_not, beq_self_eq_true, Bool.not_eq_true', ne_eq, Decidable.not_not, List.nil_append, List.length_singleton, List.length_cons, List.length_nil, Nat.zero_add, Nat.add_zero, Nat.mul_one, and_self, beq_iff_eq, Bool.not_true, Bool.not_false, Bool.not_eq_false', Bool.cond_false_right, Bool.and_eq_true, imp_self, Bool.not_eq_true, Bool.cond_true_left, Bool.or_eq_true]
  have e (h : c.length ≤ l.length) : IntKind.i64.wrap ((l.length : Int) - (c.length : Int)) = ((l.length - c.length : Nat) : Int) := by rw [wrapM _ (by omega) (by omega)]; omega
  refine ⟨fun h => ⟨h, h, ?_⟩, ?_⟩
  . rw [e (by omega)]; omega
  . by_cases h : c.length ≤ l.length
    . rw [e h, Int.toNat_natCast, suf_drop h]
      have : decide ((c.length : Int) ≤ (l.length : Int)) = true := decide_eq_true (by omega)
      rw [this, Bool.true_and]
    . rw [suf_not h]
      have : decide ((c.length : Int) ≤ (l.length : Int)) = false := decide_eq_false (by omega)
      rw [this, Bool.false_and]
theorem h110 : c_stringslite_HasSuffix.ok Tryd.prog GL 110 := con_ok (H := {}) (mkEnv_ok (gl := GL) (l := []) (q := []) (d := []) _ tyOk (by kernel_rfl) trivial trivial trivial) (by kernel_rfl) (by kernel_rfl) (Eq.mp e110 k110)
def t52 : Prop :=
  ∀ (x : q0), (q5 x) -> True -> True /\ (∀ (y : q2), (q13 y) -> y.1 = sufD x.2.1 x.1 -> y.1 = sufD x.2.1 x.1) /\ True
theorem e52 : t52 = Con.vc c_strings_HasSuffix GL (mkEnv ty [(110, conSem c_stringslite_HasSuffix)] [] [] [0, 1, 4]) {} Tryd.f52.ntmps Tryd.f52.results.toList (bodyOf Tryd.f52) := by kernel_rfl
theorem k52 : t52 := by
  unfold t52
  delta q0 q5 q2 q13 wsZ wbZ
  rintro ⟨l, c, _⟩ hx hp
  try dsimp +instances only [dft_int, dft_sl, dft_str]
  simp only [true_and, and_true, eq_self_iff_true, implies_true, reduceCtorEq, false_implies, true_implies, decide_eq_true_eq, decide_eq_false_iff_not, beq_self_eq_true, Bool.not_eq_true', ne_eq, Decidable.not_not, List.nil_append, List.length_singleton, List.length_cons, List.length_nil, Nat.zero_add, Nat.add_zero, Nat.mul_one, and_self, beq_iff_eq, Bool.not_true, Bool.not_false, Bool.not_eq_false', Bool.cond_false_right, Bool.and_eq_true, imp_self, Bool.not_eq_true, Bool.cond_true_left, Bool.or_eq_true]
theorem h52 : c_strings_HasSuffix.ok Tryd.prog GL 52 := con_ok (H := {}) (mkEnv_ok (gl := GL) (l := [(110, conSem c_stringslite_HasSuffix)]) (q := []) (d := []) _ tyOk (by kernel_rfl) ⟨h110.call, trivial⟩ trivial trivial) (by kernel_rfl) (by kernel_rfl) (Eq.mp e52 k52)
def t18 : Prop :=
  ∀ (x : q0), (q5 x) -> List.length x.1 <= q25 /\ List.length x.2.1 <= q25 -> List.length x.1 <= q25 /\ (∀ (y : q2), (q13 y) -> y.1 = dnsD x.1 -> ((!y.1) = false -> True) /\ ((!y.1) = false
  -> ((!y.1) == false) = true /\ List.length x.2.1 <= q25 /\ (∀ (y : q2), (q13 y) -> y.1 = dnsD x.2.1 -> ((!y.1) = true -> false = belowD x.1 x.2.1) /\ ((!y.1) = false -> (List.length x.1 <=
  q25 /\ ∀ (c : Int), c ∈ x.1 -> c < (128 : Int)) /\ (∀ (y : q3), (wsZ y.1 /\ True) -> y.1 = lowD x.1 -> (List.length x.2.1 <= q25 /\ ∀ (c : Int), c ∈ x.2.1 -> c < (128 : Int)) /\ (∀ (y_1 :
  q3), (wsZ y_1.1 /\ True) -> y_1.1 = lowD x.2.1 -> (decide (y.1 = y_1.1) = false -> True) /\ (decide (y.1 = y_1.1) = false -> True) /\ (decide (y.1 = y_1.1) = false -> (decide (y.1 = y_1.1)
  == false) = true /\ (1 : Nat) + List.length y_1.1 <= (9223372036854775807 : Nat) /\ True) /\ (decide (y.1 = y_1.1) = false -> (decide (y.1 = y_1.1) == false) = true /\ (decide (y.1 = y_1.1)
  == false) = true /\ True /\ (∀ (y_2 : q2), (q13 y_2) -> y_2.1 = sufD (bs { data := #[(46 : UInt8)] } ++ y_1.1) y.1 -> y_2.1 = belowD x.1 x.2.1) /\ True) /\ (decide (y.1 = y_1.1) = !false ->
  true = belowD x.1 x.2.1)) /\ True) /\ True)) /\ True) /\ ((!y.1) = !false -> false = belowD x.1 x.2.1)) /\ True
theorem e18 : t18 = Con.vc c_within_Below GL (mkEnv ty [(19, conSem c_host_DNS), (51, conSem c_within_small), (52, conSem c_strings_HasSuffix)] [] [] [0, 1, 4, 12]) {} Tryd.f18.ntmps Tryd.f18.results.toList (bodyOf Tryd.f18) := by kernel_rfl
theorem k18 : t18 := by
  unfold t18
  delta q0 q5 q25 q2 q13 q3 wsZ wbZ
  rintro ⟨a, b, _⟩ hx hp
  obtain ⟨ha, hb⟩ := hp
  simp only at ha hb
  have wa : Bys a := str_bys hx.1
  have wb : Bys b := str_bys hx.2.1
  try dsimp +instances only [dft_int, dft_sl, dft_str]
  simp only [true_and, and_true, eq_self_iff_true, implies_true, reduceCtorEq, false_implies, true_implies, decide_eq_true_eq, decide_eq_false_iff_not, beq_self_eq_true, Bool.not_eq_true', ne_eq, Decidable.not_not, List.nil_append, List.length_singleton, List.length_cons, List.length_nil, Nat.zero_add, Nat.add_zero, Nat.mul_one, and_self, beq_iff_eq, Bool.not_true, Bool.not_false, Bool.not_eq_false', Bool.cond_false_right, Bool.and_eq_true, imp_self, Bool.not_eq_true, Bool.cond_true_left, Bool.or_eq_true]
  refine ⟨ha, ?_⟩
  rintro ⟨y, _⟩ _ ey
  simp only at ey ⊢
  refine ⟨fun h1 => ⟨h1, hb, ?_⟩, fun h1 => by rw [belowD, ← ey, h1]; rfl⟩
  rintro ⟨z, _⟩ _ ez
  simp only at ez ⊢
  have da : dnsD a = true := by rw [← ey]; exact h1
  refine ⟨fun h2 => by rw [belowD, ← ez, h2]; simp, fun h2 => ?_⟩
  have db : dnsD b = true := by rw [← ez]; exact h2
  refine ⟨⟨ha, letters_ascii wa da⟩, ?_⟩
  rintro ⟨p, _⟩ _ ep
  simp only at ep ⊢
  refine ⟨⟨hb, letters_ascii wb db⟩, ?_⟩
  rintro ⟨q, _⟩ _ eq
  simp only at eq ⊢
  have hq : q.length = b.length := by rw [eq]; exact low_len b
  have hB : belowD a b = (decide (p = q) || sufD (46 :: q) p) := by rw [belowD, da, db, ep, eq]; simp [sufD]
  refine ⟨fun h => ⟨h, by omega⟩, fun h => ⟨h, h, ?_⟩, fun h => by rw [hB, h]; simp⟩
  rintro ⟨r, _⟩ _ er
  simp only at er ⊢
  rw [er, hB, decide_eq_false h]
  rfl
theorem h18 : c_within_Below.ok Tryd.prog GL 18 := con_ok (H := {}) (mkEnv_ok (gl := GL) (l := [(19, conSem c_host_DNS), (51, conSem c_within_small), (52, conSem c_strings_HasSuffix)]) (q := []) (d := []) _ tyOk (by kernel_rfl) ⟨h19.call, h51.call, h52.call, trivial⟩ trivial trivial) (by kernel_rfl) (by kernel_rfl) (Eq.mp e18 k18)
end Go.Proofs.YtbdfeddakniaeaaDoor
end
section
namespace Go.Proofs.YtbdfeddakniaeaaDoor
open Go Go.Vc Go.Pl Go.Proofs
def c_law14_there : Con := { args := [], res := [.dat .bool], pre := fun _ => True, post := fun _ y => y.1 = true }
def c_law14_WithinDown : Con := { args := [.dat .str, .dat .str, .dat .str], res := [.dat .bool], pre := fun x => ABulk [.dat .str, .dat .str, .dat .str] x ≤ 1048576, post := fun _ y => y.1 = true }
end Go.Proofs.YtbdfeddakniaeaaDoor
end
section
namespace Go.Proofs.YtbdfeddakniaeaaDoor
open Go Go.Vc Go.Pl Go.Proofs
set_option linter.unusedVariables false
set_option linter.unusedSimpArgs false
theorem there1 : belowD (bs { data := #[120, 46, 97, 46, 98] }) (bs { data := #[97, 46, 98] }) = true := by decide +kernel
theorem there2 : belowD (bs { data := #[120, 97, 46, 98] }) (bs { data := #[97, 46, 98] }) = false := by decide +kernel
abbrev q41 := (1000000000 : Nat)
abbrev q40 (p0 : List Int × List Int × List Int × Unit) := (List.length p0.1 <= (1000000000 : Nat) /\ List.length p0.2.1 <= (1000000000 : Nat))
abbrev q37 (p0 : q2) (p1 : q2) (p2 : List Int × List Int × List Int × Unit) := (decide (p0.1 = p1.1) = true -> (decide (p0.1 = p1.1) == true) = true /\ (decide (p0.1 = p1.1) == true) = true
  /\ (q40 p2) /\ (∀ (y : q2), (wbZ y.1 /\ True) -> y.1 = belowD p2.1 p2.2.1 -> (y.1 = true -> True) /\ (y.1 = true -> True) /\ (y.1 = true -> (y.1 == true) = true /\ (y.1 == true) = true /\
  (List.length p2.2.1 <= q41 /\ List.length p2.1 <= q41) /\ (∀ (y : q2), (wbZ y.1 /\ True) -> y.1 = belowD p2.2.1 p2.1 -> (q40 p2) /\ (∀ (y_2 : q2), (wbZ y_2.1 /\ True) -> y_2.1 = matchD p2.1
  p2.2.1 -> (y_2.1 = true -> True) /\ (y_2.1 = true -> (y_2.1 == true) = true /\ List.length p2.1 <= q41 /\ (∀ (y_3 : q2), (wbZ y_3.1 /\ True) -> y_3.1 = dnsD p2.1 -> (decide (y.1 = y_3.1) =
  true -> True /\ (∀ (y : q2), (wbZ y.1 /\ True) -> y.1 = true -> y.1 = true) /\ True) /\ (decide (y.1 = y_3.1) = !true -> false = true)) /\ True) /\ (y_2.1 = !true -> (decide (y.1 = false) =
  true -> True /\ (∀ (y : q2), (wbZ y.1 /\ True) -> y.1 = true -> y.1 = true) /\ True) /\ (decide (y.1 = false) = !true -> false = true))) /\ True) /\ True) /\ (y.1 = !true -> (q40 p2) /\ (∀
  (y : q2), (wbZ y.1 /\ True) -> y.1 = matchD p2.1 p2.2.1 -> (y.1 = true -> True) /\ (y.1 = true -> (y.1 == true) = true /\ List.length p2.1 <= q41 /\ (∀ (y : q2), (wbZ y.1 /\ True) -> y.1 =
  dnsD p2.1 -> (decide (false = y.1) = true -> True /\ (∀ (y : q2), (wbZ y.1 /\ True) -> y.1 = true -> y.1 = true) /\ True) /\ (decide (false = y.1) = !true -> false = true)) /\ True) /\ (y.1
  = !true -> (decide (false = false) = true -> True /\ (∀ (y : q2), (wbZ y.1 /\ True) -> y.1 = true -> y.1 = true) /\ True) /\ (decide (false = false) = !true -> false = true))) /\ True)) /\
  True)
abbrev q34 (p0 : q2) (p1 : List Int × List Int × List Int × Unit) := (p0.1 = !true -> (List.length p1.1 <= q41 /\ List.length p1.1 <= q41) /\ (∀ (y : q2), (wbZ y.1 /\ True) -> y.1 = belowD
  p1.1 p1.1 -> List.length p1.1 <= q41 /\ (∀ (y_1 : q2), (wbZ y_1.1 /\ True) -> y_1.1 = dnsD p1.1 -> (decide (y.1 = y_1.1) = true -> True) /\ (decide (y.1 = y_1.1) = true -> True) /\ (q37 y
  y_1 p1) /\ (decide (y.1 = y_1.1) = !true -> false = true)) /\ True) /\ True)
def t21 : Prop :=
  ∀ (x : Unit), True -> True -> ((5 : Nat) <= q25 /\ (3 : Nat) <= q25) /\ (∀ (y : q2), (q13 y) -> y.1 = belowD (bs { data := #[(120 : UInt8), (46 : UInt8), (97 : UInt8), (46 : UInt8), (98 :
  UInt8)] }) (bs { data := #[(97 : UInt8), (46 : UInt8), (98 : UInt8)] }) -> (y.1 = true -> ((4 : Nat) <= q25 /\ (3 : Nat) <= q25) /\ (∀ (y : q2), (q13 y) -> y.1 = belowD (bs { data := #[(120
  : UInt8), (97 : UInt8), (46 : UInt8), (98 : UInt8)] }) (bs { data := #[(97 : UInt8), (46 : UInt8), (98 : UInt8)] }) -> (!y.1) = true) /\ True) /\ (y.1 = !true -> false = true)) /\ True
theorem e21 : t21 = Con.vc c_law14_there GL (mkEnv ty [(18, conSem c_within_Below)] [] [] [0]) {} Tryd.f21.ntmps Tryd.f21.results.toList (bodyOf Tryd.f21) := by kernel_rfl
theorem k21 : t21 := by
  unfold t21
  delta q25 q2 q13 wbZ
  rintro _ hx hp
  try dsimp +instances only [dft_int, dft_sl, dft_str]
  simp only [true_and, and_true, eq_self_iff_true, implies_true, reduceCtorEq, false_implies, true_implies, decide_eq_true_eq, decide_eq_false_iff_not, beq_self_eq_true, Bool.not_eq_true', ne_eq, Decidable.not_not, List.nil_append, List.length_singleton, List.length_cons, List.length_nil, Nat.zero_add, Nat.add_zero, Nat.mul_one, and_self, beq_iff_eq, Bool.not_true, Bool.not_false, Bool.not_eq_false', Bool.cond_false_right, Bool.and_eq_true, imp_self, Bool.not_eq_true, Bool.cond_true_left, Bool.or_eq_true]
  refine ⟨⟨by decide, by decide⟩, ?_⟩
  rintro ⟨y, _⟩ _ ey
  simp only at ey ⊢
  rw [there1] at ey
  refine ⟨fun _ => ⟨⟨by decide, by decide⟩, ?_⟩, fun h => by rw [ey] at h; cases h⟩
  rintro ⟨z, _⟩ _ ez
  rw [there2] at ez
  exact ez
theorem h21 : c_law14_there.ok Tryd.prog GL 21 := con_ok (H := {}) (mkEnv_ok (gl := GL) (l := [(18, conSem c_within_Below)]) (q := []) (d := []) _ tyOk (by kernel_rfl) ⟨h18.call, trivial⟩ trivial trivial) (by kernel_rfl) (by kernel_rfl) (Eq.mp e21 k21)
def t4 : Prop :=
  ∀ (x : List Int × List Int × List Int × Unit), (wsZ x.1 /\ wsZ x.2.1 /\ wsZ x.2.2.1 /\ True) -> ABulk [AK.dat Kd.str, AK.dat Kd.str, AK.dat Kd.str] x <= (1048576 : Nat) -> (q40 x) /\ (∀ (y
  : q2), (q13 y) -> y.1 = belowD x.1 x.2.1 -> (y.1 = true -> True) /\ (y.1 = true -> True) /\ (y.1 = true -> (y.1 == true) = true /\ (y.1 == true) = true /\ (List.length x.2.1 <= q25 /\
  List.length x.2.2.1 <= q25) /\ (∀ (y : q2), (q13 y) -> y.1 = belowD x.2.1 x.2.2.1 -> (y.1 = true -> True) /\ (y.1 = true -> True) /\ (y.1 = true -> (y.1 == true) = true /\ (y.1 == true) =
  true /\ (List.length x.1 <= q25 /\ List.length x.2.2.1 <= q25) /\ (∀ (y : q2), (q13 y) -> y.1 = belowD x.1 x.2.2.1 -> ((!y.1) = true -> false = true) /\ ((!y.1) = false -> (List.length x.1
  <= q41 /\ List.length x.1 <= q41) /\ (∀ (y : q2), (q13 y) -> y.1 = belowD x.1 x.1 -> List.length x.1 <= q25 /\ (∀ (y_1 : q2), (q13 y_1) -> y_1.1 = dnsD x.1 -> (decide (y.1 = y_1.1) = true
  -> True) /\ (decide (y.1 = y_1.1) = true -> True) /\ (q37 y y_1 x) /\ (decide (y.1 = y_1.1) = !true -> false = true)) /\ True) /\ True)) /\ True) /\ (q34 y x)) /\ True) /\ (q34 y x)) /\
  True
theorem e4 : t4 = Con.vc c_law14_WithinDown GL (mkEnvO ty [(18, conSem c_within_Below), (19, conSem c_host_DNS), (20, conSem c_host_Match), (21, conSem c_law14_there)] [] [] [0, 1, 2, 6, 20] [1000000]) {} Tryd.f4.ntmps Tryd.f4.results.toList (bodyOf Tryd.f4) := by kernel_rfl
theorem k4 : t4 := by
  unfold t4
  delta wsZ q40 q2 q13 q25 q41 q37 q34 wbZ
  rintro ⟨a, b, c, _⟩ hx hp
  have hl : a.length ≤ 1000000000 ∧ b.length ≤ 1000000000 ∧ c.length ≤ 1000000000 := by
    simp [ABulk, AK.bulk, Kd.bulk] at hp
    omega
  obtain ⟨ha, hb, hc⟩ := hl
  clear hp hx
  try dsimp +instances only [dft_int, dft_sl, dft_str]
  simp only [true_and, and_true, eq_self_iff_true, implies_true, reduceCtorEq, false_implies, true_implies, decide_eq_true_eq, decide_eq_false_iff_not, beq_self_eq_true, Bool.not_eq_true', ne_eq, Decidable.not_not, List.nil_append, List.length_singleton, List.length_cons, List.length_nil, Nat.zero_add, Nat.add_zero, Nat.mul_one, and_self, beq_iff_eq, Bool.not_true, Bool.not_false, Bool.not_eq_false', Bool.cond_false_right, Bool.and_eq_true, imp_self, Bool.not_eq_true, Bool.cond_true_left, Bool.or_eq_true]
  simp only [all_bool]
  have h1 := below_self a
  have h2 := below_both a b
  have h3 : belowD a b = true → belowD b c = true → belowD a c = true := below_trans
  rw [h1]
  generalize belowD a b = x at *
  generalize belowD b a = y at *
  generalize matchD a b = m at *
  generalize dnsD a = d at *
  generalize belowD b c = z at *
  generalize belowD a c = v at *
  clear h1
  cases x <;> cases y <;> cases m <;> cases d <;> cases z <;> cases v <;> simp [ha, hb, hc] at h2 h3 ⊢
theorem h4 : c_law14_WithinDown.ok Tryd.prog GL 4 := conO_ok (H := {}) (mkEnvO_ok (gl := GL) (l := [(18, conSem c_within_Below), (19, conSem c_host_DNS), (20, conSem c_host_Match), (21, conSem c_law14_there)]) (q := []) (d := []) _ [1000000] tyOk (by kernel_rfl) ⟨h18.call, h19.call, h20.call, h21.call, trivial⟩ trivial trivial) (by kernel_rfl) (by kernel_rfl) (Eq.mp e4 k4)
end Go.Proofs.YtbdfeddakniaeaaDoor
end
section
namespace Go.Proofs.YtbdfeddakniaeaaDoor
open Go Go.Vc Go.Pl Go.Proofs
set_option maxRecDepth 100000 in
theorem glOk {w : World} (hL : laidMetH Tryd.prog [("unicode/utf8.acceptRanges", Rows.laid_unicode_utf8_acceptRanges), ("unicode/utf8.first", Rows.laid_unicode_utf8_first)] w) (hS : w.ShapedOpen Tryd.prog) : GlOk GL w (fun _ => False) := by
  have hL : laidMet Tryd.prog [("unicode/utf8.acceptRanges", Rows.laid_unicode_utf8_acceptRanges), ("unicode/utf8.first", Rows.laid_unicode_utf8_first)] w := hL
  have h0 := Lib.laidMet.reads hL (n := "unicode/utf8.first") (d := Rows.laid_unicode_utf8_first) (by simp)
  have h1 := Lib.laidMet.reads hL (n := "unicode/utf8.acceptRanges") (d := Rows.laid_unicode_utf8_acceptRanges) (by simp)
  obtain ⟨m, hm⟩ := Tryd.laysM219.s1_3 w hS
  have hm : w.cell? ⟨0, 0, none⟩ = some (.int .i64 m) := hm
  obtain ⟨fs, hs, hf, ho⟩ := pairB_eq (P := Tryd.prog) (e := 207) (k := .u8) (by kernel_rfl)
  have k0 := gl_ints (P := Tryd.prog) (w := w) (g := 1) (t := 205) (e := 5) (n := 256) (k := .u8) (zs := Lib.firstTab) (by kernel_rfl) (by kernel_rfl) (by kernel_rfl) (by kernel_rfl) (by kernel_rfl) (by kernel_rfl) (by kernel_rfl) (of_decide_eq_true (by kernel_rfl)) (by kernel_rfl) h0
  have k1 := gl_pairs (P := Tryd.prog) (w := w) (g := 2) (t := 208) (e := 207) (n := 16) (k := .u8) (zs := accTab) (by kernel_rfl) (by kernel_rfl) (by kernel_rfl) hs hf ho (by kernel_rfl) (by kernel_rfl) (by kernel_rfl) (of_decide_eq_true (by kernel_rfl)) (by kernel_rfl) (by kernel_rfl) h1
  intro g v hg
  rcases gl_cons hg with ⟨rfl, rfl⟩ | hg
  . exact k0
  rcases gl_cons hg with ⟨rfl, rfl⟩ | hg
  . exact k1
  obtain ⟨rfl, rfl⟩ := gl_one hg
  exact ⟨cell_lt hm, id, m, hm⟩
end Go.Proofs.YtbdfeddakniaeaaDoor
end
section
namespace Go.Proofs.YtbdfeddakniaeaaDoor
open Go Go.Vc Go.Pl Go.Proofs
end Go.Proofs.YtbdfeddakniaeaaDoor
end
