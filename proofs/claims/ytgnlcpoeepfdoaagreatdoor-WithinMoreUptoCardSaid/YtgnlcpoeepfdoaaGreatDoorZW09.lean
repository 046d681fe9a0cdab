/- Texts of a verified walk, led together: WithinA, WithinW. -/
import Derived.Test.YtgnlcpoeepfdoaaGreatDoorZW08
import Derived.Test.YtgnlcpoeepfdoaaGreatDoorZV14
set_option linter.unusedVariables false
set_option linter.unusedSimpArgs false
section
namespace Go.Proofs.YtgnlcpoeepfdoaaGreatDoor
open Go Go.Vc Go.Pl Go.Proofs
def c_within_small_1 : Con := { args := [.dat (.int .i32)], res := [.dat (.int .i32)], pre := fun _ => True, post := fun x y => y.1 = smallD x.1 }
def c_strings_Map : Con := { args := [Kd.fn, Kd.str].map .dat, res := [Kd.str].map .dat, pre := fun x => x.1 = (52 : Nat) + 1 ∧ x.2.1.length ≤ 1000000000 ∧ ∀ c ∈ x.2.1, c < 128, post := fun x y => y.1 = lowD x.2.1 }
def c_within_small : Con := { args := [.dat .str], res := [.dat .str], pre := fun x => x.1.length ≤ 1000000000 ∧ ∀ c ∈ x.1, c < 128, post := fun x y => y.1 = lowD x.1 }
def c_stringslite_HasSuffix : Con := { args := [.dat .str, .dat .str], res := [.dat .bool], pre := fun _ => True, post := fun x y => y.1 = sufD x.2.1 x.1 }
def c_strings_HasSuffix : Con := { args := [.dat .str, .dat .str], res := [.dat .bool], pre := fun _ => True, post := fun x y => y.1 = sufD x.2.1 x.1 }
def c_within_Below : Con := { args := [.dat .str, .dat .str], res := [.dat .bool], pre := fun x => x.1.length ≤ 1000000000 ∧ x.2.1.length ≤ 1000000000, post := fun x y => y.1 = belowD x.1 x.2.1 }
end Go.Proofs.YtgnlcpoeepfdoaaGreatDoor
end
section
namespace Go.Proofs.YtgnlcpoeepfdoaaGreatDoor
open Go Go.Vc Go.Pl Go.Proofs
set_option linter.unusedVariables false
set_option linter.unusedSimpArgs false
def t52 : Prop :=
  ∀ (x : q1), (Kd.wf (Kd.int IntKind.i32) x.1 /\ True) -> True -> (decide (q237 <= x.1) = true -> True) /\ (q73 x) /\ (q74 x) /\ ((q75 x) = true -> IntKind.wrap IntKind.i32 (IntKind.wrap
  IntKind.i32 (x.1 + (97 : Int)) - q237) = smallD x.1) /\ (q72 x)
theorem e52 : t52 = Con.vc c_within_small_1 GL (mkEnv ty [] [] [] [0, 2, 8]) {} Tryz.f52.ntmps Tryz.f52.results.toList (bodyOf Tryz.f52) := by kernel_rfl
theorem k52 : t52 := by
  unfold t52
  delta q1 q237 q73 q74 q75 q72
  rintro ⟨r, _⟩ hx hp
  have hr : -2147483648 ≤ r ∧ r ≤ 2147483647 := by
    have h : InR .i32 r := hx.1
    simpa [InR, IntKind.min, IntKind.max, IntKind.signed, IntKind.bits] using h
  try dsimp +instances only [dft_int, dft_sl, dft_str]
  simp only [true_and, and_true, eq_self_iff_true, implies_true, reduceCtorEq, false_implies, true_implies, decide_eq_true_eq, decide_eq_false_iff_not, beq_self_eq_true, Bool.not_eq_true', ne_eq, Decidable.not_not, List.nil_append, List.length_singleton, List.length_cons, List.length_nil, Nat.zero_add, Nat.add_zero, Nat.mul_one, and_self, beq_iff_eq, Bool.not_true, Bool.not_false, Bool.not_eq_false', Bool.cond_false_right, Bool.and_eq_true, imp_self, Bool.not_eq_true, Bool.cond_true_left, Bool.or_eq_true]
  have w32 (x : Int) (h0 : -2147483648 ≤ x) (h1 : x ≤ 2147483647) : IntKind.wrap .i32 x = x := by
    simp [IntKind.wrap, IntKind.signed, IntKind.bits]
    split <;> omega
  refine ⟨fun h => ?_, fun h => ?_⟩
  . rw [w32 (r + 97) (by omega) (by omega), w32 _ (by omega) (by omega), smallD, if_pos h]; omega
  . rw [smallD, if_neg]
    simp at h
    omega
theorem h52 : c_within_small_1.ok Tryz.prog GL 52 := con_ok (H := {}) (mkEnv_ok (gl := GL) (l := []) (q := []) (d := []) _ tyOk (by kernel_rfl) trivial trivial trivial) (by kernel_rfl) (by kernel_rfl) (Eq.mp e52 k52)
theorem h51 : c_strings_Map.ok Tryz.prog GL 51 := by
  refine lib_ok (ks := [Kd.fn, Kd.str]) (rs := [Kd.str]) Tryz.func51 (by kernel_rfl) (by decide) ?_
  rintro w F ⟨g, l, u⟩ vs h hg hp
  obtain ⟨v1, r1, rfl, h1, v2, r2, rfl, h2, rfl⟩ := h
  obtain ⟨s, rfl, rfl, hs⟩ := VRep_str.1 h2
  obtain ⟨hp1, hp2, hp3⟩ := hp
  simp only at hp1 hp2 hp3
  rw [bs_length] at hp2
  have hv : v1 = .func (.func 52) #[] #[] := by
    obtain ⟨cs, hr, hc⟩ := h1
    have hc : cs = [v1] := hc
    rw [hp1] at hr
    rcases hr with ⟨e, _⟩ | ⟨n, e, hcs⟩
    . cases e
    . have e : (52 + 1 : Nat) = n + 1 := e
      have : n = 52 := by omega
      subst this
      rw [hc] at hcs
      exact (List.cons.inj hcs).1
  subst hv
  have hf : MapGrows Tryz.prog 52 #[] smallD w := by
    intro W x hx hb
    have hno : ∀ b, ¬ ownBlk [AK.dat (.int .i32)] [.int .i32 x] b := by
      rintro b ⟨v, hv, _⟩
      cases hv
    have hgW : GlOk GL W (fun b => False ∨ ownBlk [AK.dat (.int .i32)] [.int .i32 x] b) := hg.step hb.size (fun b hb' _ => hb.block b hb') (fun b _ h => (h.resolve_left id |> hno b).elim)
    have hr := h52.holds W (fun _ => False) (((x : Int), ()) : ATup [AK.dat (.int .i32)]) [.int .i32 x] (fun b hb => hb.elim) hgW ⟨_, _, rfl, VRep_int.2 ⟨rfl, by simp [InR, IntKind.min, IntKind.max, IntKind.signed, IntKind.bits]; omega⟩, rfl⟩ (fun i j v u b hi => by have hi : (none : Option Value) = some v := hi; cases hi) trivial
    refine Calls.mono hr fun e w' he => ?_
    rcases he with ⟨us, y, rfl, hy, hk, hR, _⟩ | ⟨hp, _⟩
    . obtain ⟨v, r, rfl, hv, hr⟩ := hR
      obtain rfl : r = [] := hr
      obtain ⟨rfl, _⟩ := VRep_int.1 hv
      have hy : y.1 = smallD x := hy
      exact ⟨by rw [← hy]; rfl, hk.os, hk.tape, hk.output, hk.size, fun b hb => hk.block b hb (hno b)⟩
    . cases hp
  refine Calls.mono (Tryz.strings_Map_grows 52 #[] (fun args w => fn_enter (body := bodyOf Tryz.f52) Tryz.func52 (by kernel_rfl) (by kernel_rfl) args w) smallD s w (by omega) hf (fun x hx => by unfold smallD; split <;> omega) (utf8_gl hg rfl rfl)) ?_
  rintro e w' ⟨rfl, hb⟩
  refine ⟨⟨hb.os, hb.tape, hb.output, hb.size, fun b hb' _ => hb.block b hb'⟩, [_], (lowD (bs s), ()), rfl, rfl, _, _, rfl, VRep_str.2 ⟨_, rfl, map_low_bs s hp3, ?_⟩, rfl⟩
  have := congrArg List.length (map_low_bs s hp3)
  rw [bs_length, low_len, bs_length] at this
  omega
def t26 : Prop :=
  ∀ (x : q6), (q64 x) -> (List.length x.1 <= q92 /\ ∀ (c : Int), c ∈ x.1 -> c < q239) -> ((53 : Nat) = (53 : Nat) /\ List.length x.1 <= q92 /\ ∀ (c : Int), c ∈ x.1 -> c < q239) /\ (∀ (y :
  q6), (q64 y) -> y.1 = lowD x.1 -> y.1 = lowD x.1) /\ True
theorem e26 : t26 = Con.vc c_within_small GL (mkEnv ty [(51, conSem c_strings_Map)] [] [] [0, 2]) {} Tryz.f26.ntmps Tryz.f26.results.toList (bodyOf Tryz.f26) := by kernel_rfl
theorem k26 : t26 := by
  unfold t26
  delta q6 q64 q92 q239 wsZ
  rintro ⟨s, _⟩ hx hp
  try dsimp +instances only [dft_int, dft_sl, dft_str]
  simp only [true_and, and_true, eq_self_iff_true, implies_true, reduceCtorEq, false_implies, true_implies, decide_eq_true_eq, decide_eq_false_iff_not, beq_self_eq_true, Bool.not_eq_true', ne_eq, Decidable.not_not, List.nil_append, List.length_singleton, List.length_cons, List.length_nil, Nat.zero_add, Nat.add_zero, Nat.mul_one, and_self, beq_iff_eq, Bool.not_true, Bool.not_false, Bool.not_eq_false', Bool.cond_false_right, Bool.and_eq_true, imp_self, Bool.not_eq_true, Bool.cond_true_left, Bool.or_eq_true]
  exact hp
theorem h26 : c_within_small.ok Tryz.prog GL 26 := con_ok (H := {}) (mkEnv_ok (gl := GL) (l := [(51, conSem c_strings_Map)]) (q := []) (d := []) _ tyOk (by kernel_rfl) ⟨h51.call, trivial⟩ trivial trivial) (by kernel_rfl) (by kernel_rfl) (Eq.mp e26 k26)
def t53 : Prop :=
  ∀ (x : q2), (q31 x) -> True -> (q41 x) /\ (q41 x) /\ (q40 x) /\ (q41 x) /\ (q40 x) /\ (q39 x) /\ (decide (q43 x) = true -> (q42 x) = true /\ (q42 x) = true /\ (q33 <= wrZ ((lnZ x.1) - (lnZ
  x.2.1)) /\ wrZ ((lnZ x.1) - (lnZ x.2.1)) <= (lnZ x.1)) /\ True) /\ (q41 x) /\ (q39 x) /\ (decide (q43 x) = true -> (q42 x) = true) /\ (bif decide (q43 x) then decide (List.drop (Int.toNat
  (wrZ ((lnZ x.1) - (lnZ x.2.1)))) x.1 = x.2.1) else false) = sufD x.2.1 x.1
theorem e53 : t53 = Con.vc c_stringslite_HasSuffix GL (mkEnv ty [] [] [] [0, 1, 4]) {} Tryz.f53.ntmps Tryz.f53.results.toList (bodyOf Tryz.f53) := by kernel_rfl
theorem k53 : t53 := by
  unfold t53
  delta q2 q31 q41 q40 q39 q43 q42 q33 wrZ lnZ wsZ q268
  rintro ⟨l, c, _⟩ hx hp
  have hl : l.length ≤ 9223372036854775807 := hx.1.1
  try dsimp +instances only [dft_int, dft_sl, dft_str]
  simp only [true_and, and_true, eq_self_iff_true, implies_true, reduceCtorEq, false_implies, true_implies, decide_eq_true_eq, decide_eq_false_iff_not, beq_self_eq_true, Bool.not_eq_true', ne_eq, Decidable.not_not, List.nil_append, List.length_singleton, List.length_cons, List.length_nil, Nat.zero_add, Nat.add_zero, Nat.mul_one, and_self, beq_iff_eq, Bool.not_true, Bool.not_false, Bool.not_eq_false', Bool.cond_false_right, Bool.and_eq_true, imp_self, Bool.not_eq_true, Bool.cond_true_left, Bool.or_eq_true]
  have e (h : c.length ≤ l.length) : IntKind.i64.wrap ((l.length : Int) - (c.length : Int)) = ((l.length - c.length : Nat) : Int) := by rw [wrapM _ (by omega) (by omega)]; omega
  refine ⟨fun h => ⟨h, h, ?_⟩, ?_⟩
  . rw [e (by omega)]; omega
  . by_cases h : c.length ≤ l.length
    . rw [e h, Int.toNat_natCast, suf_drop h]
      have : decide ((c.length : Int) ≤ (l.length : Int)) = true := decide_eq_true (by omega)
      rw [this, Bool.true_and]
    . rw [suf_not h]
      have : decide ((c.length : Int) ≤ (l.length : Int)) = false := decide_eq_false (by omega)
      rw [this, Bool.false_and]
theorem h53 : c_stringslite_HasSuffix.ok Tryz.prog GL 53 := con_ok (H := {}) (mkEnv_ok (gl := GL) (l := []) (q := []) (d := []) _ tyOk (by kernel_rfl) trivial trivial trivial) (by kernel_rfl) (by kernel_rfl) (Eq.mp e53 k53)
def t27 : Prop :=
  ∀ (x : q2), (q31 x) -> True -> True /\ (∀ (y : q4), (q44 y) -> y.1 = sufD x.2.1 x.1 -> y.1 = sufD x.2.1 x.1) /\ True
theorem e27 : t27 = Con.vc c_strings_HasSuffix GL (mkEnv ty [(53, conSem c_stringslite_HasSuffix)] [] [] [0, 1, 4]) {} Tryz.f27.ntmps Tryz.f27.results.toList (bodyOf Tryz.f27) := by kernel_rfl
theorem k27 : t27 := by
  unfold t27
  delta q2 q31 q4 q44 wsZ wbZ
  rintro ⟨l, c, _⟩ hx hp
  try dsimp +instances only [dft_int, dft_sl, dft_str]
  simp only [true_and, and_true, eq_self_iff_true, implies_true, reduceCtorEq, false_implies, true_implies, decide_eq_true_eq, decide_eq_false_iff_not, beq_self_eq_true, Bool.not_eq_true', ne_eq, Decidable.not_not, List.nil_append, List.length_singleton, List.length_cons, List.length_nil, Nat.zero_add, Nat.add_zero, Nat.mul_one, and_self, beq_iff_eq, Bool.not_true, Bool.not_false, Bool.not_eq_false', Bool.cond_false_right, Bool.and_eq_true, imp_self, Bool.not_eq_true, Bool.cond_true_left, Bool.or_eq_true]
theorem h27 : c_strings_HasSuffix.ok Tryz.prog GL 27 := con_ok (H := {}) (mkEnv_ok (gl := GL) (l := [(53, conSem c_stringslite_HasSuffix)]) (q := []) (d := []) _ tyOk (by kernel_rfl) ⟨h53.call, trivial⟩ trivial trivial) (by kernel_rfl) (by kernel_rfl) (Eq.mp e27 k27)
def t8 : Prop :=
  ∀ (x : q2), (q31 x) -> List.length x.1 <= q92 /\ List.length x.2.1 <= q92 -> List.length x.1 <= q92 /\ (∀ (y : q4), (q44 y) -> y.1 = dnsD x.1 -> ((!y.1) = false -> True) /\ ((!y.1) = false
  -> ((!y.1) == false) = true /\ List.length x.2.1 <= q92 /\ (∀ (y : q4), (q44 y) -> y.1 = dnsD x.2.1 -> ((!y.1) = true -> false = belowD x.1 x.2.1) /\ ((!y.1) = false -> (List.length x.1 <=
  q92 /\ ∀ (c : Int), c ∈ x.1 -> c < q239) /\ (∀ (y : q6), (q64 y) -> y.1 = lowD x.1 -> (List.length x.2.1 <= q92 /\ ∀ (c : Int), c ∈ x.2.1 -> c < q239) /\ (∀ (y_1 : q6), (q64 y_1) -> y_1.1 =
  lowD x.2.1 -> (decide (y.1 = y_1.1) = false -> True) /\ (decide (y.1 = y_1.1) = false -> True) /\ (decide (y.1 = y_1.1) = false -> (decide (y.1 = y_1.1) == false) = true /\ q36 +
  List.length y_1.1 <= q85 /\ True) /\ (decide (y.1 = y_1.1) = false -> (decide (y.1 = y_1.1) == false) = true /\ (decide (y.1 = y_1.1) == false) = true /\ True /\ (∀ (y_2 : q4), (q44 y_2) ->
  y_2.1 = sufD (bs { data := #[(46 : UInt8)] } ++ y_1.1) y.1 -> y_2.1 = belowD x.1 x.2.1) /\ True) /\ (decide (y.1 = y_1.1) = !false -> true = belowD x.1 x.2.1)) /\ True) /\ True)) /\ True)
  /\ ((!y.1) = !false -> false = belowD x.1 x.2.1)) /\ True
theorem e8 : t8 = Con.vc c_within_Below GL (mkEnv ty [(25, conSem c_host_DNS), (26, conSem c_within_small), (27, conSem c_strings_HasSuffix)] [] [] [0, 1, 4, 12]) {} Tryz.f8.ntmps Tryz.f8.results.toList (bodyOf Tryz.f8) := by kernel_rfl
theorem k8 : t8 := by
  unfold t8
  delta q2 q31 q92 q4 q44 q239 q6 q64 q36 q85 wsZ wbZ
  rintro ⟨a, b, _⟩ hx hp
  obtain ⟨ha, hb⟩ := hp
  simp only at ha hb
  have wa : Bys a := str_bys hx.1
  have wb : Bys b := str_bys hx.2.1
  try dsimp +instances only [dft_int, dft_sl, dft_str]
  simp only [true_and, and_true, eq_self_iff_true, implies_true, reduceCtorEq, false_implies, true_implies, decide_eq_true_eq, decide_eq_false_iff_not, beq_self_eq_true, Bool.not_eq_true', ne_eq, Decidable.not_not, List.nil_append, List.length_singleton, List.length_cons, List.length_nil, Nat.zero_add, Nat.add_zero, Nat.mul_one, and_self, beq_iff_eq, Bool.not_true, Bool.not_false, Bool.not_eq_false', Bool.cond_false_right, Bool.and_eq_true, imp_self, Bool.not_eq_true, Bool.cond_true_left, Bool.or_eq_true]
  refine ⟨ha, ?_⟩
  rintro ⟨y, _⟩ _ ey
  simp only at ey ⊢
  refine ⟨fun h1 => ⟨h1, hb, ?_⟩, fun h1 => by rw [belowD, ← ey, h1]; rfl⟩
  rintro ⟨z, _⟩ _ ez
  simp only at ez ⊢
  have da : dnsD a = true := by rw [← ey]; exact h1
  refine ⟨fun h2 => by rw [belowD, ← ez, h2]; simp, fun h2 => ?_⟩
  have db : dnsD b = true := by rw [← ez]; exact h2
  refine ⟨⟨ha, letters_ascii wa da⟩, ?_⟩
  rintro ⟨p, _⟩ _ ep
  simp only at ep ⊢
  refine ⟨⟨hb, letters_ascii wb db⟩, ?_⟩
  rintro ⟨q, _⟩ _ eq
  simp only at eq ⊢
  have hq : q.length = b.length := by rw [eq]; exact low_len b
  have hB : belowD a b = (decide (p = q) || sufD (46 :: q) p) := by rw [belowD, da, db, ep, eq]; simp [sufD]
  refine ⟨fun h => ⟨h, by omega⟩, fun h => ⟨h, h, ?_⟩, fun h => by rw [hB, h]; simp⟩
  rintro ⟨r, _⟩ _ er
  simp only at er ⊢
  rw [er, hB, decide_eq_false h]
  rfl
theorem h8 : c_within_Below.ok Tryz.prog GL 8 := con_ok (H := {}) (mkEnv_ok (gl := GL) (l := [(25, conSem c_host_DNS), (26, conSem c_within_small), (27, conSem c_strings_HasSuffix)]) (q := []) (d := []) _ tyOk (by kernel_rfl) ⟨h25.call, h26.call, h27.call, trivial⟩ trivial trivial) (by kernel_rfl) (by kernel_rfl) (Eq.mp e8 k8)
end Go.Proofs.YtgnlcpoeepfdoaaGreatDoor
end
