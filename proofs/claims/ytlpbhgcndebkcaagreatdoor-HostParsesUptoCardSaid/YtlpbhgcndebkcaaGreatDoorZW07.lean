/- Texts of a verified walk, led together: NamxA, NamxW. -/
import Derived.Test.YtlpbhgcndebkcaaGreatDoorZW06
import Derived.Test.YtlpbhgcndebkcaaGreatDoorZV12
import Derived.Test.YtlpbhgcndebkcaaGreatDoorZShelf
set_option linter.unusedVariables false
set_option linter.unusedSimpArgs false
section
namespace Go.Proofs.YtlpbhgcndebkcaaGreatDoor
open Go Go.Vc Go.Pl Go.Proofs
def c_strings_ReplaceAll : Con := { args := [Kd.str, Kd.str, Kd.str].map .dat, res := [Kd.str].map .dat, pre := fun x => x.1.length ≤ 1000000 ∧ x.2.1.length = 1 ∧ x.2.2.1.length = 2, post := fun x y => y.1 = repD (x.2.1.getD 0 0) x.2.2.1 x.1 }
def c_strings_Join : Con := { args := [Kd.sl .str, Kd.str].map .dat, res := [Kd.str].map .dat, pre := fun x => (x.1 : List (List Int)).length ≤ 1000000 ∧ (joinO x.1 x.2.1).length ≤ 1000000000, post := fun x y => y.1 = joinO x.1 x.2.1 }
def c_name_escaped : Con := { args := [.dat .str], res := [.dat .str], pre := fun x => x.1.length ≤ 100000, post := fun x y => y.1 = escD x.1 }
def c_name_Text : Con := { args := [.dat (.sl AT)], res := [.dat .str, .dat I64], pre := fun x => x.1.length ≤ 1000000000, post := fun x y => (y.1, y.2.1) = TextN x.1 }
end Go.Proofs.YtlpbhgcndebkcaaGreatDoor
end
section
namespace Go.Proofs.YtlpbhgcndebkcaaGreatDoor
open Go Go.Vc Go.Pl Go.Proofs
set_option linter.unusedVariables false
set_option linter.unusedSimpArgs false
set_option maxRecDepth 20000
theorem adft_eq5 : Kd.dft (Kd.pair (Kd.int IntKind.i64) Kd.str) = adft := rfl
abbrev q566 (p0 : q16) (p1 : q1) := (List.getD p0.1 (Int.toNat p1.1) q577)
abbrev q532 (p0 : q16) (p1 : q1) (p2 : q6) (p3 : q18) (p4 : Int × Unit -> List (List Int) × Unit -> Prop) (p5 : Int × Unit -> List (List Int) × Unit -> Nat) := (List.length (q566 p0 p1).2
  <= (100000 : Nat) /\ (∀ (y_2 : q6), (wsZ y_2.1 /\ True) -> y_2.1 = escD (q566 p0 p1).2 -> (List.length (p2.1 ++ bs { data := #[(61 : UInt8)] }) + List.length y_2.1 <= (9223372036854775807 :
  Nat) /\ (((0 : Nat) < (1 : Nat) /\ (List.length p3.1 + List.length [p2.1 ++ bs { data := #[(61 : UInt8)] } ++ y_2.1]) * (16 : Nat) <= (140737488355328 : Nat) /\ List.length p3.1 +
  List.length [p2.1 ++ bs { data := #[(61 : UInt8)] } ++ y_2.1] <= (9223372036854775807 : Nat) /\ (lnZ p0.1) = (lnZ p0.1) /\ p0.1 = p0.1 /\ Value.bool false = Value.bool false /\ q574 = q574
  /\ bs { data := #[] } = bs { data := #[] } /\ p0.1 = p0.1 /\ p4 (wrZ (p1.1 + (1 : Int)), ()) (p3.1 ++ [p2.1 ++ bs { data := #[(61 : UInt8)] } ++ y_2.1], ()) /\ p5 (wrZ (p1.1 + (1 : Int)),
  ()) (p3.1 ++ [p2.1 ++ bs { data := #[(61 : UInt8)] } ++ y_2.1], ()) < p5 p1 p3) /\ True) /\ True) /\ True) /\ True)
abbrev q456 (p0 : q6) (p1 : q16) (p2 : q1) (p3 : q18) (p4 : Int × Unit -> List (List Int) × Unit -> Prop) (p5 : Int × Unit -> List (List Int) × Unit -> Nat) := (List.length p0.1 + q527 <=
  q547 /\ (q532 p1 p2 p0 p3 p4 p5) /\ True)
abbrev q457 (p0 : q16) (p1 : q1) (p2 : q6) (p3 : q18) (p4 : Int × Unit -> List (List Int) × Unit -> Prop) (p5 : Int × Unit -> List (List Int) × Unit -> Nat) := (List.length (q566 p0 p1).2
  <= (100000 : Nat) /\ (∀ (y_2 : q6), (wsZ y_2.1 /\ True) -> y_2.1 = escD (q566 p0 p1).2 -> (List.length p2.1 + q527 <= q547 /\ (List.length (p2.1 ++ bs { data := #[q526] }) + List.length
  y_2.1 <= q547 /\ ((q540 < q527 /\ (List.length p3.1 + List.length [p2.1 ++ bs { data := #[q526] } ++ y_2.1]) * (16 : Nat) <= q535 /\ List.length p3.1 + List.length [p2.1 ++ bs { data :=
  #[q526] } ++ y_2.1] <= q547 /\ (lnZ p0.1) = (lnZ p0.1) /\ p0.1 = p0.1 /\ Value.bool false = Value.bool false /\ q529 = q529 /\ bs { data := #[] } = bs { data := #[] } /\ p0.1 = p0.1 /\ p4
  (wrZ (p1.1 + q528), ()) (p3.1 ++ [p2.1 ++ bs { data := #[q526] } ++ y_2.1], ()) /\ p5 (wrZ (p1.1 + q528), ()) (p3.1 ++ [p2.1 ++ bs { data := #[q526] } ++ y_2.1], ()) < p5 p1 p3) /\ True) /\
  True) /\ True) /\ True) /\ True)
abbrev q311 (p0 : q16) (p1 : q1) (p2 : q18) (p3 : Int × Unit -> List (List Int) × Unit -> Prop) (p4 : Int × Unit -> List (List Int) × Unit -> Nat) := ((True /\ (∀ (y_1 : q6), (wsZ y_1.1 /\
  True) -> y_1.1 = labelK (q500 p0 p1).1 -> (q456 y_1 p0 p1 p2 p3 p4) /\ (q457 p0 p1 y_1 p2 p3 p4) /\ True) /\ True) /\ True)
theorem h84 : c_strings_ReplaceAll.ok Tryz.prog GL 84 := by
  refine lib_ok (ks := [Kd.str, Kd.str, Kd.str]) (rs := [Kd.str]) Tryz.func84 (by kernel_rfl) (by decide) ?_
  rintro w F ⟨l, m, q, u⟩ vs h hg hp
  obtain ⟨v1, r1, rfl, h1, v2, r2, rfl, h2, v3, r3, rfl, h3, rfl⟩ := h
  obtain ⟨s, rfl, rfl, hs⟩ := VRep_str.1 h1
  obtain ⟨t, rfl, rfl, ht⟩ := VRep_str.1 h2
  obtain ⟨n, rfl, rfl, hn⟩ := VRep_str.1 h3
  obtain ⟨_, _, k, hk⟩ := hg 0 (.num .i64) rfl
  obtain ⟨p1, p2, p3⟩ := hp
  simp only at p1 p2 p3
  rw [bs_length] at p1
  have hb : ∀ s : ByteArray, Bys (bs s) := bs_range
  have et : bs t = [(bs t).getD 0 0] := by
    generalize bs t = l at p2
    match l, p2 with
    | [a], _ => rfl
  have hc := bys_get (hb t) 0
  have t1 : t.size = 1 := by rw [← bs_length]; exact p2
  have n2 : n.size = 2 := by rw [← bs_length]; exact p3
  have hcnt := Lib.countB_le t (by omega) s.size s (Nat.le_refl _)
  refine Calls.mono (Tryz.strings_ReplaceAll s t n k w (by omega) hk (by omega) (by rw [n2]; omega)) ?_
  rintro e w' ⟨rfl, hbl⟩
  have hr : bs ⟨(Lib.replaceAll s.data.toList t.data.toList n.data.toList).toArray⟩ = repD ((bs t).getD 0 0) (bs n) (bs s) := by
    rw [← u8s_bs s, ← u8s_bs t, ← u8s_bs n, et]
    refine replAll hc (hb s) (hb n) fun h => ?_
    have := congrArg List.length h
    unfold u8s at this
    rw [List.length_map, List.length_map] at this
    simp at this
    omega
  have hlen := rep_len ((bs t).getD 0 0) (bs n) (by omega) (bs s)
  have hl2 := congrArg List.length hr
  rw [bs_length] at hl2
  rw [bs_length] at hlen
  exact ⟨below_kept hbl, [_], (repD ((bs t).getD 0 0) (bs n) (bs s), ()), rfl, rfl, _, [], rfl, VRep_str.2 ⟨_, rfl, hr, by omega⟩, rfl⟩
theorem h46 : c_strings_Join.ok Tryz.prog GL 46 := by
  refine lib_ok (ks := [Kd.sl .str, Kd.str]) (rs := [Kd.str]) Tryz.func46 (by kernel_rfl) (by decide) ?_
  rintro w F ⟨l, m, u⟩ vs h hg hp
  obtain ⟨v1, r1, rfl, h1, v2, r2, rfl, h2, rfl⟩ := h
  obtain ⟨A, c, rfl, hc1, hc2, hA⟩ := VRep_sl.1 h1
  obtain ⟨t, rfl, rfl, ht⟩ := VRep_str.1 h2
  obtain ⟨p1, p2⟩ := hp
  simp only at p1 p2 hA hc1
  by_cases hl : l = []
  . subst hl
    refine Calls.mono (Tryz.strings_Join_none A c t w) ?_
    rintro e w' ⟨rfl, rfl⟩
    exact ⟨Kept.refl _ _, [_], ([], ()), rfl, rfl, _, [], rfl, VRep_str.2 ⟨⟨#[]⟩, rfl, rfl, by decide⟩, rfl⟩
  . obtain ⟨ad, rfl, hb, _, hE⟩ := hA hl
    obtain ⟨hs, xs, rfl, hx⟩ := texts_of hE
    obtain ⟨bk, o, sp⟩ := ad
    have hs : sp = none := hs hl
    subst hs
    have hlen : xs.length = (xs.map bs).length := (List.length_map ..).symm
    have hj := congrArg List.length (join_bs xs t)
    rw [bs_u8s, List.length_map] at hj
    have hc : ∀ (j : Nat) (x : ByteArray), xs[j]? = some x → w.cell? ⟨bk, o + j, none⟩ = some (.string x) := fun j x hx2 => by
      have := hx j x hx2
      rwa [addr_add] at this
    have hJ := Tryz.strings_Join bk o c xs t w hc hb (by omega) (by omega) (by omega)
    rw [hlen] at hJ
    refine Calls.mono hJ ?_
    rintro e w' ⟨rfl, hbl⟩
    refine ⟨below_kept hbl, [_], (joinO (xs.map bs) (bs t), ()), rfl, rfl, _, [], rfl, VRep_str.2 ⟨_, rfl, join_bs xs t, ?_⟩, rfl⟩
    show (Lib.join (xs.map (·.data.toList)) t.data.toList).toArray.size ≤ _
    simp only [List.size_toArray]
    omega
def t45 : Prop :=
  ∀ (x : q6), (q71 x) -> List.length x.1 <= (100000 : Nat) -> (List.length x.1 <= (1000000 : Nat) /\ List.length (bs { data := #[(92 : UInt8)] }) = q42 /\ List.length (bs { data := #[(92 :
  UInt8), (92 : UInt8)] }) = q76) /\ (∀ (y : q6), (q71 y) -> y.1 = repD (List.getD (bs { data := #[(92 : UInt8)] }) q74 q40) (bs { data := #[(92 : UInt8), (92 : UInt8)] }) x.1 -> (List.length
  y.1 <= (1000000 : Nat) /\ List.length (bs { data := #[(44 : UInt8)] }) = q42 /\ List.length (bs { data := #[(92 : UInt8), (44 : UInt8)] }) = q76) /\ (∀ (y_1 : q6), (q71 y_1) -> y_1.1 = repD
  (List.getD (bs { data := #[(44 : UInt8)] }) q74 q40) (bs { data := #[(92 : UInt8), (44 : UInt8)] }) y.1 -> y_1.1 = escD x.1) /\ True) /\ True
theorem e45 : t45 = Con.vc c_name_escaped GL (mkEnv ty [(84, conSem c_strings_ReplaceAll)] [] [] [0, 2]) {} Tryz.f45.ntmps Tryz.f45.results.toList (bodyOf Tryz.f45) := by kernel_rfl
theorem k45 : t45 := by
  unfold t45
  delta q6 q71 q42 q76 q74 q40 wsZ
  rintro ⟨v, _⟩ hx hp
  have hp : v.length ≤ 100000 := hp
  try dsimp +instances only [dft_int, dft_sl, dft_str]
  simp only [true_and, and_true, eq_self_iff_true, implies_true, reduceCtorEq, false_implies, true_implies, decide_eq_true_eq, decide_eq_false_iff_not, beq_self_eq_true, Bool.not_eq_true', ne_eq, Decidable.not_not, List.nil_append, List.length_singleton, List.length_cons, List.length_nil, Nat.zero_add, Nat.add_zero, Nat.mul_one, and_self, beq_iff_eq, Bool.not_true, Bool.not_false, Bool.not_eq_false', Bool.cond_false_right, Bool.and_eq_true, imp_self, Bool.not_eq_true, Bool.cond_true_left, Bool.or_eq_true]
  rw [show bs { data := #[92] } = [92] by decide, show bs { data := #[92, 92] } = [92, 92] by decide, show bs { data := #[44] } = [44] by decide, show bs { data := #[92, 44] } = [92, 44] by decide]
  refine ⟨⟨by omega, rfl, rfl⟩, ?_⟩
  rintro ⟨y, _⟩ _ ey
  have ey : y = repD 92 [92, 92] v := ey
  have hl := rep_len 92 [92, 92] (by decide) v
  simp only
  rw [ey]
  refine ⟨⟨by omega, rfl, rfl⟩, ?_⟩
  rintro ⟨z, _⟩ _ ez
  have ez : z = repD 44 [92, 44] (repD 92 [92, 92] v) := ez
  rw [rep_esc] at ez
  exact ez
theorem h45 : c_name_escaped.ok Tryz.prog GL 45 := con_ok (H := {}) (mkEnv_ok (gl := GL) (l := [(84, conSem c_strings_ReplaceAll)]) (q := []) (d := []) _ tyOk (by kernel_rfl) ⟨h84.call, trivial⟩ trivial trivial) (by kernel_rfl) (by kernel_rfl) (Eq.mp e45 k45)
def t16 : Prop :=
  ∀ (x : q16), (q150 x) -> List.length x.1 <= q88 -> True /\ (∀ (y : q4), (q49 y) -> y.1 = mayN x.1 -> ((!y.1) = true -> (bs { data := #[] }, (120 : Int)) = TextN x.1) /\ ((!y.1) = false -> ∃
  (I : Int × Unit -> List (List Int) × Unit -> Prop), ∃ (μ : Int × Unit -> List (List Int) × Unit -> Nat), ((lnZ x.1) = (lnZ x.1) /\ x.1 = x.1 /\ Value.bool false = Value.bool false /\ q40 =
  q40 /\ bs { data := #[] } = bs { data := #[] } /\ x.1 = x.1 /\ I (q40, ()) ([], ())) /\ ∀ (y : q1) (z : q18), (q36 y) -> (q181 z) -> I y z -> (decide (y.1 < (lnZ x.1)) = true -> (q40 <= y.1
  /\ y.1 < (lnZ x.1)) /\ q76 <= q72 /\ ((True /\ (∀ (y_1 : q6), (q71 y_1) -> y_1.1 = labelK (q259 x y).1 -> (List.length y_1.1 + q42 <= q157 /\ ((q532 x y y_1 z I μ) /\ True) /\ True) /\
  ((q456 y_1 x y z I μ) /\ (q457 x y y_1 z I μ) /\ True) /\ True) /\ True) /\ (q311 x y z I μ) /\ True) /\ ((q311 x y z I μ) /\ True) /\ True) /\ (decide (y.1 < (lnZ x.1)) = false ->
  (List.length z.1 <= (1000000 : Nat) /\ List.length (joinO z.1 (bs { data := #[(44 : UInt8)] })) <= q88) /\ (∀ (y : q6), (q71 y) -> y.1 = joinO z.1 (bs { data := #[(44 : UInt8)] }) -> (y.1,
  q40) = TextN x.1) /\ True))) /\ True
theorem e16 : t16 = Con.vc c_name_Text GL (mkEnv ty [(43, conSem c_name_May), (44, conSem c_name_label), (45, conSem c_name_escaped), (46, conSem c_strings_Join)] [] [] [0, 2, 3, 4, 6, 9, 10, 11, 12, 13]) {} Tryz.f16.ntmps Tryz.f16.results.toList (bodyOf Tryz.f16) := by kernel_rfl
theorem k16 : t16 := by
  unfold t16
  delta q16 q150 q88 q4 q49 lnZ q40 q1 q18 q36 q181 q76 q72 q6 q71 q259 q42 q157 q532 q456 q457 q311 q484 wbZ wiZ wsZ q411 q485 q566 q574 wrZ q527 q547 q526 q540 q535 q529 q528 q500 q541 q577
  rintro ⟨n, _⟩ hx hp
  have hp : n.length ≤ 1000000000 := hp
  try dsimp +instances only [dft_int, dft_sl, dft_str]
  simp only [true_and, and_true, eq_self_iff_true, implies_true, reduceCtorEq, false_implies, true_implies, decide_eq_true_eq, decide_eq_false_iff_not, beq_self_eq_true, Bool.not_eq_true', ne_eq, Decidable.not_not, List.nil_append, List.length_singleton, List.length_cons, List.length_nil, Nat.zero_add, Nat.add_zero, Nat.mul_one, and_self, beq_iff_eq, Bool.not_true, Bool.not_false, Bool.not_eq_false', Bool.cond_false_right, Bool.and_eq_true, imp_self, Bool.not_eq_true, Bool.cond_true_left, Bool.or_eq_true]
  simp only [adft_eq5]
  rw [show bs { data := #[61] } = [61] by decide, show bs { data := #[44] } = [44] by decide, bs_nil]
  rintro ⟨m, _⟩ _ em
  simp only at em ⊢
  subst em
  refine ⟨fun h => by rw [TextN, if_neg (by rw [h]; decide)], fun h => ?_⟩
  obtain ⟨h16, hA⟩ := mayN_args h
  refine ⟨fun y z => 0 ≤ y.1 ∧ y.1 ≤ n.length ∧ z.1 = (n.take y.1.toNat).map attrT, fun y _ => ((n.length : Int) - y.1).toNat, ⟨Int.le_refl 0, by simp only; omega, rfl⟩, ?_⟩
  rintro ⟨i, _⟩ ⟨z, _⟩ _ _ ⟨i0, i1, ez⟩
  simp only at i0 i1 ez ⊢
  have hzl : z.length ≤ n.length := by rw [ez, List.length_map, List.length_take]; omega
  refine ⟨fun hlt => ⟨⟨i0, hlt⟩, by decide, ?_⟩, fun hge => ?_⟩
  . have hm := hA _ (mem_getD adft n i.toNat (by omega))
    have hst : (n.take (i.toNat + 1)).map attrT = z ++ [attrT (n.getD i.toNat adft)] := by rw [take_snocA adft n _ (by omega), List.map_append, ← ez]; rfl
    have hv := mayA_len hm
    have hl2 := label_len (n.getD i.toNat adft).1
    have he := esc_len (n.getD i.toNat adft).2
    rw [wrapK (i + 1) (by omega) (by omega)]
    simp only [all_str]
    have F1 : (labelK (n.getD i.toNat adft).1).length + 1 ≤ 9223372036854775807 := by omega
    have F2 : (n.getD i.toNat adft).2.length ≤ 100000 := by omega
    have F3 : (labelK (n.getD i.toNat adft).1 ++ [61]).length + (escD (n.getD i.toNat adft).2).length ≤ 9223372036854775807 := by rw [List.length_append, List.length_singleton]; omega
    have F4 : (z.length + 1) * 16 ≤ 140737488355328 := by omega
    have F5 : z.length + 1 ≤ 9223372036854775807 := by omega
    have F6 : (0 ≤ i + 1 ∧ i + 1 ≤ (n.length : Int) ∧ z ++ [labelK (n.getD i.toNat adft).1 ++ [61] ++ escD (n.getD i.toNat adft).2] = (n.take (i + 1).toNat).map attrT) ∧ ((n.length : Int) - (i + 1)).toNat < ((n.length : Int) - i).toNat := by
      refine ⟨⟨by omega, by omega, ?_⟩, by omega⟩
      rw [show (i + 1).toNat = i.toNat + 1 by omega, hst, attrT, List.append_assoc]
      rfl
    have T := And.intro F3 (And.intro (show 0 < 1 by decide) (And.intro F4 (And.intro F5 F6)))
    exact ⟨⟨fun _ => ⟨⟨F1, F2, fun _ => T⟩, ⟨F1, F2, fun _ => T⟩, F2, fun _ => ⟨F1, T⟩⟩, fun _ => ⟨⟨F1, F2, fun _ => T⟩, F2, fun _ => ⟨F1, T⟩⟩⟩, fun _ => ⟨⟨F1, F2, fun _ => T⟩, F2, fun _ => ⟨F1, T⟩⟩⟩
  . have ezz : z = n.map attrT := by rw [ez, List.take_of_length_le (by omega)]
    have hlen := txtN_len hA n.length (Nat.le_refl _)
    rw [txtN_all (Nat.le_refl _)] at hlen
    rw [ezz, join_txtN]
    refine ⟨⟨by rw [List.length_map]; omega, by omega⟩, ?_⟩
    rintro ⟨y, _⟩ _ ey
    simp only at ey ⊢
    rw [ey, TextN, if_pos h]
theorem h16 : c_name_Text.ok Tryz.prog GL 16 := con_ok (H := {}) (mkEnv_ok (gl := GL) (l := [(43, conSem c_name_May), (44, conSem c_name_label), (45, conSem c_name_escaped), (46, conSem c_strings_Join)]) (q := []) (d := []) _ tyOk (by kernel_rfl) ⟨h43.call, h44.call, h45.call, h46.call, trivial⟩ trivial trivial) (by kernel_rfl) (by kernel_rfl) (Eq.mp e16 k16)
end Go.Proofs.YtlpbhgcndebkcaaGreatDoor
end
