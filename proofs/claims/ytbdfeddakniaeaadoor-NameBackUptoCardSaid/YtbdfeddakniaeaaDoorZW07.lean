/- Texts of a verified walk, led together: NamxA, NamxW, Law12tA, Law12tW, Law12hA, Law12hW, Glok12A, Glok12W. -/
import Derived.Test.YtbdfeddakniaeaaDoorZW06
import Derived.Test.YtbdfeddakniaeaaDoorZV12
import Derived.Test.YtbdfeddakniaeaaDoorZShelf
import Derived.Test.YtbdfeddakniaeaaDoorRows
set_option linter.unusedVariables false
set_option linter.unusedSimpArgs false
section
namespace Go.Proofs.YtbdfeddakniaeaaDoor
open Go Go.Vc Go.Pl Go.Proofs
def c_strings_ReplaceAll : Con := { args := [Kd.str, Kd.str, Kd.str].map .dat, res := [Kd.str].map .dat, pre := fun x => x.1.length ≤ 1000000 ∧ x.2.1.length = 1 ∧ x.2.2.1.length = 2, post := fun x y => y.1 = repD (x.2.1.getD 0 0) x.2.2.1 x.1 }
def c_strings_Join : Con := { args := [Kd.sl .str, Kd.str].map .dat, res := [Kd.str].map .dat, pre := fun x => (x.1 : List (List Int)).length ≤ 1000000 ∧ (joinO x.1 x.2.1).length ≤ 1000000000, post := fun x y => y.1 = joinO x.1 x.2.1 }
def c_name_escaped : Con := { args := [.dat .str], res := [.dat .str], pre := fun x => x.1.length ≤ 100000, post := fun x y => y.1 = escD x.1 }
def c_name_Text : Con := { args := [.dat (.sl AT)], res := [.dat .str, .dat I64], pre := fun x => x.1.length ≤ 1000000000, post := fun x y => (y.1, y.2.1) = TextN x.1 }
end Go.Proofs.YtbdfeddakniaeaaDoor
end
section
namespace Go.Proofs.YtbdfeddakniaeaaDoor
open Go Go.Vc Go.Pl Go.Proofs
set_option linter.unusedVariables false
set_option linter.unusedSimpArgs false
set_option maxRecDepth 20000
theorem adft_eq5 : Kd.dft (Kd.pair (Kd.int IntKind.i64) Kd.str) = adft := rfl
abbrev q215 (p0 : q15) (p1 : q1) (p2 : q4) (p3 : List (List Int) × Unit) (p4 : Int × Unit -> List (List Int) × Unit -> Prop) (p5 : Int × Unit -> List (List Int) × Unit -> Nat) :=
  (List.length (List.getD p0.1 (Int.toNat p1.1) q228).2 <= (100000 : Nat) /\ (∀ (y_2 : q4), (wsZ y_2.1 /\ True) -> y_2.1 = escD (List.getD p0.1 (Int.toNat p1.1) q228).2 -> (List.length (p2.1
  ++ bs { data := #[(61 : UInt8)] }) + List.length y_2.1 <= (9223372036854775807 : Nat) /\ (((0 : Nat) < (1 : Nat) /\ (List.length p3.1 + List.length [p2.1 ++ bs { data := #[(61 : UInt8)] }
  ++ y_2.1]) * (16 : Nat) <= (140737488355328 : Nat) /\ List.length p3.1 + List.length [p2.1 ++ bs { data := #[(61 : UInt8)] } ++ y_2.1] <= (9223372036854775807 : Nat) /\ (lnZ p0.1) = (lnZ
  p0.1) /\ p0.1 = p0.1 /\ Value.bool false = Value.bool false /\ q229 = q229 /\ bs { data := #[] } = bs { data := #[] } /\ p0.1 = p0.1 /\ p4 (wrZ (p1.1 + (1 : Int)), ()) (p3.1 ++ [p2.1 ++ bs
  { data := #[(61 : UInt8)] } ++ y_2.1], ()) /\ p5 (wrZ (p1.1 + (1 : Int)), ()) (p3.1 ++ [p2.1 ++ bs { data := #[(61 : UInt8)] } ++ y_2.1], ()) < p5 p1 p3) /\ True) /\ True) /\ True) /\ True)
abbrev q193 (p0 : q4) (p1 : q15) (p2 : q1) (p3 : List (List Int) × Unit) (p4 : Int × Unit -> List (List Int) × Unit -> Prop) (p5 : Int × Unit -> List (List Int) × Unit -> Nat) :=
  (List.length p0.1 + (1 : Nat) <= q217 /\ (q215 p1 p2 p0 p3 p4 p5) /\ True)
abbrev q194 (p0 : q15) (p1 : q1) (p2 : q4) (p3 : List (List Int) × Unit) (p4 : Int × Unit -> List (List Int) × Unit -> Prop) (p5 : Int × Unit -> List (List Int) × Unit -> Nat) :=
  (List.length (q220 p0 p1).2 <= (100000 : Nat) /\ (∀ (y_2 : q4), (wsZ y_2.1 /\ True) -> y_2.1 = escD (q220 p0 p1).2 -> (List.length p2.1 + (1 : Nat) <= q217 /\ (List.length (p2.1 ++ bs {
  data := #[(61 : UInt8)] }) + List.length y_2.1 <= q217 /\ (((0 : Nat) < (1 : Nat) /\ (List.length p3.1 + List.length [p2.1 ++ bs { data := #[(61 : UInt8)] } ++ y_2.1]) * (16 : Nat) <=
  (140737488355328 : Nat) /\ List.length p3.1 + List.length [p2.1 ++ bs { data := #[(61 : UInt8)] } ++ y_2.1] <= q217 /\ (lnZ p0.1) = (lnZ p0.1) /\ p0.1 = p0.1 /\ Value.bool false =
  Value.bool false /\ q229 = q229 /\ bs { data := #[] } = bs { data := #[] } /\ p0.1 = p0.1 /\ p4 (wrZ (p1.1 + (1 : Int)), ()) (p3.1 ++ [p2.1 ++ bs { data := #[(61 : UInt8)] } ++ y_2.1], ())
  /\ p5 (wrZ (p1.1 + (1 : Int)), ()) (p3.1 ++ [p2.1 ++ bs { data := #[(61 : UInt8)] } ++ y_2.1], ()) < p5 p1 p3) /\ True) /\ True) /\ True) /\ True) /\ True)
abbrev q157 (p0 : q15) (p1 : q1) (p2 : List (List Int) × Unit) (p3 : Int × Unit -> List (List Int) × Unit -> Prop) (p4 : Int × Unit -> List (List Int) × Unit -> Nat) := ((True /\ (∀ (y_1 :
  q4), (wsZ y_1.1 /\ True) -> y_1.1 = labelK (q220 p0 p1).1 -> (q193 y_1 p0 p1 p2 p3 p4) /\ (q194 p0 p1 y_1 p2 p3 p4) /\ True) /\ True) /\ True)
theorem h94 : c_strings_ReplaceAll.ok Tryd.prog GL 94 := by
  refine lib_ok (ks := [Kd.str, Kd.str, Kd.str]) (rs := [Kd.str]) Tryd.func94 (by kernel_rfl) (by decide) ?_
  rintro w F ⟨l, m, q, u⟩ vs h hg hp
  obtain ⟨v1, r1, rfl, h1, v2, r2, rfl, h2, v3, r3, rfl, h3, rfl⟩ := h
  obtain ⟨s, rfl, rfl, hs⟩ := VRep_str.1 h1
  obtain ⟨t, rfl, rfl, ht⟩ := VRep_str.1 h2
  obtain ⟨n, rfl, rfl, hn⟩ := VRep_str.1 h3
  obtain ⟨_, _, k, hk⟩ := hg 0 (.num .i64) rfl
  obtain ⟨p1, p2, p3⟩ := hp
  simp only at p1 p2 p3
  rw [bs_length] at p1
  have hb : ∀ s : ByteArray, Bys (bs s) := bs_range
  have et : bs t = [(bs t).getD 0 0] := by
    generalize bs t = l at p2
    match l, p2 with
    | [a], _ => rfl
  have hc := bys_get (hb t) 0
  have t1 : t.size = 1 := by rw [← bs_length]; exact p2
  have n2 : n.size = 2 := by rw [← bs_length]; exact p3
  have hcnt := Lib.countB_le t (by omega) s.size s (Nat.le_refl _)
  refine Calls.mono (Tryd.strings_ReplaceAll s t n k w (by omega) hk (by omega) (by rw [n2]; omega)) ?_
  rintro e w' ⟨rfl, hbl⟩
  have hr : bs ⟨(Lib.replaceAll s.data.toList t.data.toList n.data.toList).toArray⟩ = repD ((bs t).getD 0 0) (bs n) (bs s) := by
    rw [← u8s_bs s, ← u8s_bs t, ← u8s_bs n, et]
    refine replAll hc (hb s) (hb n) fun h => ?_
    have := congrArg List.length h
    unfold u8s at this
    rw [List.length_map, List.length_map] at this
    simp at this
    omega
  have hlen := rep_len ((bs t).getD 0 0) (bs n) (by omega) (bs s)
  have hl2 := congrArg List.length hr
  rw [bs_length] at hl2
  rw [bs_length] at hlen
  exact ⟨below_kept hbl, [_], (repD ((bs t).getD 0 0) (bs n) (bs s), ()), rfl, rfl, _, [], rfl, VRep_str.2 ⟨_, rfl, hr, by omega⟩, rfl⟩
theorem h41 : c_strings_Join.ok Tryd.prog GL 41 := by
  refine lib_ok (ks := [Kd.sl .str, Kd.str]) (rs := [Kd.str]) Tryd.func41 (by kernel_rfl) (by decide) ?_
  rintro w F ⟨l, m, u⟩ vs h hg hp
  obtain ⟨v1, r1, rfl, h1, v2, r2, rfl, h2, rfl⟩ := h
  obtain ⟨A, c, rfl, hc1, hc2, hA⟩ := VRep_sl.1 h1
  obtain ⟨t, rfl, rfl, ht⟩ := VRep_str.1 h2
  obtain ⟨p1, p2⟩ := hp
  simp only at p1 p2 hA hc1
  by_cases hl : l = []
  . subst hl
    refine Calls.mono (Tryd.strings_Join_none A c t w) ?_
    rintro e w' ⟨rfl, rfl⟩
    exact ⟨Kept.refl _ _, [_], ([], ()), rfl, rfl, _, [], rfl, VRep_str.2 ⟨⟨#[]⟩, rfl, rfl, by decide⟩, rfl⟩
  . obtain ⟨ad, rfl, hb, _, hE⟩ := hA hl
    obtain ⟨hs, xs, rfl, hx⟩ := texts_of hE
    obtain ⟨bk, o, sp⟩ := ad
    have hs : sp = none := hs hl
    subst hs
    have hlen : xs.length = (xs.map bs).length := (List.length_map ..).symm
    have hj := congrArg List.length (join_bs xs t)
    rw [bs_u8s, List.length_map] at hj
    have hc : ∀ (j : Nat) (x : ByteArray), xs[j]? = some x → w.cell? ⟨bk, o + j, none⟩ = some (.string x) := fun j x hx2 => by
      have := hx j x hx2
      rwa [addr_add] at this
    have hJ := Tryd.strings_Join bk o c xs t w hc hb (by omega) (by omega) (by omega)
    rw [hlen] at hJ
    refine Calls.mono hJ ?_
    rintro e w' ⟨rfl, hbl⟩
    refine ⟨below_kept hbl, [_], (joinO (xs.map bs) (bs t), ()), rfl, rfl, _, [], rfl, VRep_str.2 ⟨_, rfl, join_bs xs t, ?_⟩, rfl⟩
    show (Lib.join (xs.map (·.data.toList)) t.data.toList).toArray.size ≤ _
    simp only [List.size_toArray]
    omega
def t40 : Prop :=
  ∀ (x : q4), (q45 x) -> List.length x.1 <= (100000 : Nat) -> (List.length x.1 <= (1000000 : Nat) /\ List.length (bs { data := #[(92 : UInt8)] }) = q24 /\ List.length (bs { data := #[(92 :
  UInt8), (92 : UInt8)] }) = q49) /\ (∀ (y : q4), (q45 y) -> y.1 = repD (List.getD (bs { data := #[(92 : UInt8)] }) q48 q25) (bs { data := #[(92 : UInt8), (92 : UInt8)] }) x.1 -> (List.length
  y.1 <= (1000000 : Nat) /\ List.length (bs { data := #[(44 : UInt8)] }) = q24 /\ List.length (bs { data := #[(92 : UInt8), (44 : UInt8)] }) = q49) /\ (∀ (y_1 : q4), (q45 y_1) -> y_1.1 = repD
  (List.getD (bs { data := #[(44 : UInt8)] }) q48 q25) (bs { data := #[(92 : UInt8), (44 : UInt8)] }) y.1 -> y_1.1 = escD x.1) /\ True) /\ True
theorem e40 : t40 = Con.vc c_name_escaped GL (mkEnv ty [(94, conSem c_strings_ReplaceAll)] [] [] [0, 2]) {} Tryd.f40.ntmps Tryd.f40.results.toList (bodyOf Tryd.f40) := by kernel_rfl
theorem k40 : t40 := by
  unfold t40
  delta q4 q45 q24 q49 q48 q25 wsZ
  rintro ⟨v, _⟩ hx hp
  have hp : v.length ≤ 100000 := hp
  try dsimp +instances only [dft_int, dft_sl, dft_str]
  simp only [true_and, and_true, eq_self_iff_true, implies_true, reduceCtorEq, false_implies, true_implies, decide_eq_true_eq, decide_eq_false_iff_not, beq_self_eq_true, Bool.not_eq_true', ne_eq, Decidable.not_not, List.nil_append, List.length_singleton, List.length_cons, List.length_nil, Nat.zero_add, Nat.add_zero, Nat.mul_one, and_self, beq_iff_eq, Bool.not_true, Bool.not_false, Bool.not_eq_false', Bool.cond_false_right, Bool.and_eq_true, imp_self, Bool.not_eq_true, Bool.cond_true_left, Bool.or_eq_true]
  rw [show bs { data := #[92] } = [92] by decide, show bs { data := #[92, 92] } = [92, 92] by decide, show bs { data := #[44] } = [44] by decide, show bs { data := #[92, 44] } = [92, 44] by decide]
  refine ⟨⟨by omega, rfl, rfl⟩, ?_⟩
  rintro ⟨y, _⟩ _ ey
  have ey : y = repD 92 [92, 92] v := ey
  have hl := rep_len 92 [92, 92] (by decide) v
  simp only
  rw [ey]
  refine ⟨⟨by omega, rfl, rfl⟩, ?_⟩
  rintro ⟨z, _⟩ _ ez
  have ez : z = repD 44 [92, 44] (repD 92 [92, 92] v) := ez
  rw [rep_esc] at ez
  exact ez
theorem h40 : c_name_escaped.ok Tryd.prog GL 40 := con_ok (H := {}) (mkEnv_ok (gl := GL) (l := [(94, conSem c_strings_ReplaceAll)]) (q := []) (d := []) _ tyOk (by kernel_rfl) ⟨h94.call, trivial⟩ trivial trivial) (by kernel_rfl) (by kernel_rfl) (Eq.mp e40 k40)
def t11 : Prop :=
  ∀ (x : q15), (q82 x) -> List.length x.1 <= q69 -> True /\ (∀ (y : q9), (q57 y) -> y.1 = mayN x.1 -> ((!y.1) = true -> (bs { data := #[] }, (120 : Int)) = TextN x.1) /\ ((!y.1) = false -> ∃
  (I : Int × Unit -> List (List Int) × Unit -> Prop), ∃ (μ : Int × Unit -> List (List Int) × Unit -> Nat), ((lnZ x.1) = (lnZ x.1) /\ x.1 = x.1 /\ Value.bool false = Value.bool false /\ q25 =
  q25 /\ bs { data := #[] } = bs { data := #[] } /\ x.1 = x.1 /\ I (q25, ()) ([], ())) /\ ∀ (y : q1) (z : List (List Int) × Unit), (q21 y) -> (Kd.wf (Kd.sl Kd.str) z.1 /\ True) -> I y z ->
  (decide (y.1 < (lnZ x.1)) = true -> (q25 <= y.1 /\ y.1 < (lnZ x.1)) /\ q49 <= q46 /\ ((True /\ (∀ (y_1 : q4), (q45 y_1) -> y_1.1 = labelK (q137 x y).1 -> (List.length y_1.1 + q24 <= q63 /\
  ((q215 x y y_1 z I μ) /\ True) /\ True) /\ ((q193 y_1 x y z I μ) /\ (q194 x y y_1 z I μ) /\ True) /\ True) /\ True) /\ (q157 x y z I μ) /\ True) /\ ((q157 x y z I μ) /\ True) /\ True) /\
  (decide (y.1 < (lnZ x.1)) = false -> (List.length z.1 <= (1000000 : Nat) /\ List.length (joinO z.1 (bs { data := #[(44 : UInt8)] })) <= q69) /\ (∀ (y : q4), (q45 y) -> y.1 = joinO z.1 (bs {
  data := #[(44 : UInt8)] }) -> (y.1, q25) = TextN x.1) /\ True))) /\ True
theorem e11 : t11 = Con.vc c_name_Text GL (mkEnv ty [(12, conSem c_name_May), (39, conSem c_name_label), (40, conSem c_name_escaped), (41, conSem c_strings_Join)] [] [] [0, 2, 3, 4, 6, 9, 10, 11, 12, 13]) {} Tryd.f11.ntmps Tryd.f11.results.toList (bodyOf Tryd.f11) := by kernel_rfl
theorem k11 : t11 := by
  unfold t11
  delta q15 q82 q69 q9 q57 lnZ q25 q1 q21 q49 q46 q4 q45 q137 q24 q63 q215 q193 q194 q157 q174 wbZ wiZ wsZ q176 q228 q229 wrZ q217 q220 q212
  rintro ⟨n, _⟩ hx hp
  have hp : n.length ≤ 1000000000 := hp
  try dsimp +instances only [dft_int, dft_sl, dft_str]
  simp only [true_and, and_true, eq_self_iff_true, implies_true, reduceCtorEq, false_implies, true_implies, decide_eq_true_eq, decide_eq_false_iff_not, beq_self_eq_true, Bool.not_eq_true', ne_eq, Decidable.not_not, List.nil_append, List.length_singleton, List.length_cons, List.length_nil, Nat.zero_add, Nat.add_zero, Nat.mul_one, and_self, beq_iff_eq, Bool.not_true, Bool.not_false, Bool.not_eq_false', Bool.cond_false_right, Bool.and_eq_true, imp_self, Bool.not_eq_true, Bool.cond_true_left, Bool.or_eq_true]
  simp only [adft_eq5]
  rw [show bs { data := #[61] } = [61] by decide, show bs { data := #[44] } = [44] by decide, bs_nil]
  rintro ⟨m, _⟩ _ em
  simp only at em ⊢
  subst em
  refine ⟨fun h => by rw [TextN, if_neg (by rw [h]; decide)], fun h => ?_⟩
  obtain ⟨h16, hA⟩ := mayN_args h
  refine ⟨fun y z => 0 ≤ y.1 ∧ y.1 ≤ n.length ∧ z.1 = (n.take y.1.toNat).map attrT, fun y _ => ((n.length : Int) - y.1).toNat, ⟨Int.le_refl 0, by simp only; omega, rfl⟩, ?_⟩
  rintro ⟨i, _⟩ ⟨z, _⟩ _ _ ⟨i0, i1, ez⟩
  simp only at i0 i1 ez ⊢
  have hzl : z.length ≤ n.length := by rw [ez, List.length_map, List.length_take]; omega
  refine ⟨fun hlt => ⟨⟨i0, hlt⟩, by decide, ?_⟩, fun hge => ?_⟩
  . have hm := hA _ (mem_getD adft n i.toNat (by omega))
    have hst : (n.take (i.toNat + 1)).map attrT = z ++ [attrT (n.getD i.toNat adft)] := by rw [take_snocA adft n _ (by omega), List.map_append, ← ez]; rfl
    have hv := mayA_len hm
    have hl2 := label_len (n.getD i.toNat adft).1
    have he := esc_len (n.getD i.toNat adft).2
    rw [wrapK (i + 1) (by omega) (by omega)]
    simp only [all_str]
    have F1 : (labelK (n.getD i.toNat adft).1).length + 1 ≤ 9223372036854775807 := by omega
    have F2 : (n.getD i.toNat adft).2.length ≤ 100000 := by omega
    have F3 : (labelK (n.getD i.toNat adft).1 ++ [61]).length + (escD (n.getD i.toNat adft).2).length ≤ 9223372036854775807 := by rw [List.length_append, List.length_singleton]; omega
    have F4 : (z.length + 1) * 16 ≤ 140737488355328 := by omega
    have F5 : z.length + 1 ≤ 9223372036854775807 := by omega
    have F6 : (0 ≤ i + 1 ∧ i + 1 ≤ (n.length : Int) ∧ z ++ [labelK (n.getD i.toNat adft).1 ++ [61] ++ escD (n.getD i.toNat adft).2] = (n.take (i + 1).toNat).map attrT) ∧ ((n.length : Int) - (i + 1)).toNat < ((n.length : Int) - i).toNat := by
      refine ⟨⟨by omega, by omega, ?_⟩, by omega⟩
      rw [show (i + 1).toNat = i.toNat + 1 by omega, hst, attrT, List.append_assoc]
      rfl
    have T := And.intro F3 (And.intro (show 0 < 1 by decide) (And.intro F4 (And.intro F5 F6)))
    exact ⟨⟨fun _ => ⟨⟨F1, F2, fun _ => T⟩, ⟨F1, F2, fun _ => T⟩, F2, fun _ => ⟨F1, T⟩⟩, fun _ => ⟨⟨F1, F2, fun _ => T⟩, F2, fun _ => ⟨F1, T⟩⟩⟩, fun _ => ⟨⟨F1, F2, fun _ => T⟩, F2, fun _ => ⟨F1, T⟩⟩⟩
  . have ezz : z = n.map attrT := by rw [ez, List.take_of_length_le (by omega)]
    have hlen := txtN_len hA n.length (Nat.le_refl _)
    rw [txtN_all (Nat.le_refl _)] at hlen
    rw [ezz, join_txtN]
    refine ⟨⟨by rw [List.length_map]; omega, by omega⟩, ?_⟩
    rintro ⟨y, _⟩ _ ey
    simp only at ey ⊢
    rw [ey, TextN, if_pos h]
theorem h11 : c_name_Text.ok Tryd.prog GL 11 := con_ok (H := {}) (mkEnv_ok (gl := GL) (l := [(12, conSem c_name_May), (39, conSem c_name_label), (40, conSem c_name_escaped), (41, conSem c_strings_Join)]) (q := []) (d := []) _ tyOk (by kernel_rfl) ⟨h12.call, h39.call, h40.call, h41.call, trivial⟩ trivial trivial) (by kernel_rfl) (by kernel_rfl) (Eq.mp e11 k11)
end Go.Proofs.YtbdfeddakniaeaaDoor
end
section
namespace Go.Proofs.YtbdfeddakniaeaaDoor
open Go Go.Vc Go.Pl Go.Proofs
def c_law12_there : Con := { args := [], res := [.dat .bool], pre := fun _ => True, post := fun _ y => y.1 = true }
end Go.Proofs.YtbdfeddakniaeaaDoor
end
section
namespace Go.Proofs.YtbdfeddakniaeaaDoor
open Go Go.Vc Go.Pl Go.Proofs
set_option linter.unusedVariables false
set_option linter.unusedSimpArgs false
set_option maxRecDepth 20000
def t13 : Prop :=
  ∀ (x : Unit), True -> True -> True /\ (∀ (y : q9), (q57 y) -> y.1 = mayN [((6 : Int), bs { data := #[(68 : UInt8), (69 : UInt8)] })] -> y.1 = true) /\ True
theorem e13 : t13 = Con.vc c_law12_there GL (mkEnv ty [(12, conSem c_name_May)] [] [] [0]) {} Tryd.f13.ntmps Tryd.f13.results.toList (bodyOf Tryd.f13) := by kernel_rfl
theorem k13 : t13 := by
  unfold t13
  delta q9 q57 wbZ
  rintro _ hx hp
  try dsimp +instances only [dft_int, dft_sl, dft_str]
  simp only [true_and, and_true, eq_self_iff_true, implies_true, reduceCtorEq, false_implies, true_implies, decide_eq_true_eq, decide_eq_false_iff_not, beq_self_eq_true, Bool.not_eq_true', ne_eq, Decidable.not_not, List.nil_append, List.length_singleton, List.length_cons, List.length_nil, Nat.zero_add, Nat.add_zero, Nat.mul_one, and_self, beq_iff_eq, Bool.not_true, Bool.not_false, Bool.not_eq_false', Bool.cond_false_right, Bool.and_eq_true, imp_self, Bool.not_eq_true, Bool.cond_true_left, Bool.or_eq_true]
  simp only [all_bool]
  rw [show bs { data := #[68, 69] } = [68, 69] by decide]
  exact may_de
theorem h13 : c_law12_there.ok Tryd.prog GL 13 := con_ok (H := {}) (mkEnv_ok (gl := GL) (l := [(12, conSem c_name_May)]) (q := []) (d := []) _ tyOk (by kernel_rfl) ⟨h12.call, trivial⟩ trivial trivial) (by kernel_rfl) (by kernel_rfl) (Eq.mp e13 k13)
end Go.Proofs.YtbdfeddakniaeaaDoor
end
section
namespace Go.Proofs.YtbdfeddakniaeaaDoor
open Go Go.Vc Go.Pl Go.Proofs
def c_law12_alike : Con := { args := [.dat (.sl AT), .dat (.sl AT)], res := [.dat .bool], pre := fun x => x.1.length ≤ 1000000000 ∧ x.2.1.length ≤ 1000000000, post := fun x y => x.1 = x.2.1 → y.1 = true }
def c_law12_NameBack : Con := { args := [.dat (.sl AT)], res := [.dat .bool], pre := fun x => ABulk [.dat (.sl AT)] x ≤ 1048576, post := fun _ y => y.1 = true }
end Go.Proofs.YtbdfeddakniaeaaDoor
end
section
namespace Go.Proofs.YtbdfeddakniaeaaDoor
open Go Go.Vc Go.Pl Go.Proofs
set_option linter.unusedVariables false
set_option linter.unusedSimpArgs false
set_option maxRecDepth 20000
abbrev q158 (p0 : q13) (p1 : q8) := (!(decide ((q169 p0 p1).1 = (q168 p0 p1).1) && decide ((q169 p0 p1).2 = (q168 p0 p1).2)))
abbrev q195 (p0 : q0) (p1 : q0) := (bif decide (p0.2.1 = (120 : Int)) then decide (p1.2.1 = (120 : Int)) else false)
abbrev q159 (p0 : q0) (p1 : q0) := ((q195 p0 p1) = true -> ((q195 p0 p1) == true) = true /\ True)
abbrev q196 (p0 : q0) := (p0.2.1 = (120 : Int))
abbrev q160 (p0 : q0) (p1 : q0) := (bif bif bif decide (q196 p0) then decide (q196 p1) else false then decide ((lnZ p0.1) = q172) else false then decide (p1.1 = bs { data := #[] }) else
  false)
abbrev q161 (p0 : q0) (p1 : q0) (p2 : List (Int × List Int) × Int × Unit) (p3 : List (Int × List Int) × Int × Unit) := (bif bif bif decide (p0.2.1 = q172) then decide (p1.2.1 = q172) else
  false then decide (p2.2.1 = q172) else false then decide (p3.2.1 = q172) else false)
abbrev q162 (p0 : q0) (p1 : q0) := ((bif bif decide (q196 p0) then decide (q196 p1) else false then decide ((lnZ p0.1) = q172) else false) == true)
abbrev q163 (p0 : q0) (p1 : q0) := (bif bif decide (q196 p0) then decide (q196 p1) else false then decide ((lnZ p0.1) = q172) else false)
abbrev q164 (p0 : q0) (p1 : q0) (p2 : List (Int × List Int) × Int × Unit) := (bif bif decide (p0.2.1 = q172) then decide (p1.2.1 = q172) else false then decide (p2.2.1 = q172) else false)
abbrev q165 (p0 : q0) (p1 : q0) := (bif decide (p0.2.1 = q172) then decide (p1.2.1 = q172) else false)
def t16 : Prop :=
  ∀ (x : q13), (q68 x) -> List.length x.1 <= q69 /\ List.length x.2.1 <= q69 -> (decide ((lnZ x.1) ≠ (lnZ x.2.1)) = true -> x.1 = x.2.1 -> false = true) /\ (decide ((lnZ x.1) ≠ (lnZ x.2.1)) =
  false -> ∃ (I : q6), ∃ (μ : q7), (Value.bool false = Value.bool false /\ x.1 = x.1 /\ x.2.1 = x.2.1 /\ I (q25, false, ()) ()) /\ ∀ (y : q8) (z : Unit), (q56 y) -> True -> I y z -> (decide
  (y.1 < (lnZ x.1)) = true -> (q25 <= y.1 /\ y.1 < (lnZ x.1)) /\ (q25 <= y.1 /\ y.1 < (lnZ x.2.1)) /\ ((q158 x y) = true -> x.1 = x.2.1 -> false = true) /\ ((q158 x y) = false -> Value.bool
  false = Value.bool false /\ x.1 = x.1 /\ x.2.1 = x.2.1 /\ I (wrZ (y.1 + q47), y.2.1, ()) () /\ μ (wrZ (y.1 + q47), y.2.1, ()) () < μ y z)) /\ (decide (y.1 < (lnZ x.1)) = false -> x.1 =
  x.2.1 -> true = true))
theorem e16 : t16 = Con.vc c_law12_alike GL (mkEnv ty [] [] [] [0, 1, 4, 5, 10, 14, 25]) {} Tryd.f16.ntmps Tryd.f16.results.toList (bodyOf Tryd.f16) := by kernel_rfl
theorem k16 : t16 := by
  unfold t16
  delta q13 q68 q69 lnZ q6 q7 q25 q8 q56 q158 wrZ q47 q174 wiZ wbZ q169 q168 q212 q228
  rintro ⟨a, b, _⟩ hx hp
  obtain ⟨h1, h2⟩ := hp
  simp only at h1 h2
  try dsimp +instances only [dft_int, dft_sl, dft_str]
  simp only [true_and, and_true, eq_self_iff_true, implies_true, reduceCtorEq, false_implies, true_implies, decide_eq_true_eq, decide_eq_false_iff_not, beq_self_eq_true, Bool.not_eq_true', ne_eq, Decidable.not_not, List.nil_append, List.length_singleton, List.length_cons, List.length_nil, Nat.zero_add, Nat.add_zero, Nat.mul_one, and_self, beq_iff_eq, Bool.not_true, Bool.not_false, Bool.not_eq_false', Bool.cond_false_right, Bool.and_eq_true, imp_self, Bool.not_eq_true, Bool.cond_true_left, Bool.or_eq_true]
  refine ⟨fun hl e => hl (by rw [e]), fun hl => ⟨fun y _ => 0 ≤ y.1 ∧ y.1 ≤ a.length, fun y _ => ((a.length : Int) - y.1).toNat, ⟨by simp, by simp⟩, ?_⟩⟩
  rintro ⟨i, q, _⟩ ⟨⟩ _ ⟨h3, h4⟩ h5
  simp only at h3 h4 h5 ⊢
  have hw : IntKind.i64.wrap (i + 1) = i + 1 := wrapK _ (by omega) (by omega)
  refine ⟨⟨h3, h5⟩, ⟨h3, by omega⟩, ?_, ?_⟩
  . intro h e
    subst e
    simp at h
  . intro _
    rw [hw]
    refine ⟨⟨by omega, by omega⟩, by omega⟩
theorem h16 : c_law12_alike.ok Tryd.prog GL 16 := con_ok (H := {}) (mkEnv_ok (gl := GL) (l := []) (q := []) (d := []) _ tyOk (by kernel_rfl) trivial trivial trivial) (by kernel_rfl) (by kernel_rfl) (Eq.mp e16 k16)
def t3 : Prop :=
  ∀ (x : q15), (q82 x) -> ABulk [AK.dat q152] x <= (1048576 : Nat) -> List.length x.1 <= q69 /\ (∀ (y : q0), (wyZ y.1 /\ wiZ y.2.1 /\ True) -> (y.1, y.2.1) = EncN x.1 -> List.length x.1 <=
  q69 /\ (∀ (y_1 : q0), (wsZ y_1.1 /\ wiZ y_1.2.1 /\ True) -> (y_1.1, y_1.2.1) = TextN x.1 -> True /\ (∀ (y_2 : q9), (q57 y_2) -> y_2.1 = mayN x.1 -> ((!y_2.1) = true -> (decide (q196 y) =
  true -> True) /\ (decide (q196 y) = true -> (decide (q196 y) == true) = true /\ True) /\ (decide (q196 y) = true -> (decide (q196 y) == true) = true) /\ ((q195 y y_1) = true -> True) /\
  (q159 y y_1) /\ (q159 y y_1) /\ ((q195 y y_1) = true -> ((q195 y y_1) == true) = true) /\ ((q163 y y_1) = true -> True) /\ ((q163 y y_1) = true -> (q162 y y_1) = true /\ True) /\ ((q163 y
  y_1) = true -> (q162 y y_1) = true) /\ ((q160 y y_1) = true -> True /\ (∀ (y : q9), (q57 y) -> y.1 = true -> y.1 = true) /\ True) /\ ((q160 y y_1) = !true -> false = true)) /\ ((!y_2.1) =
  false -> lenB y.1 <= q65 /\ (∀ (y_3 : List q81 × Int × Unit), (Kd.wf q152 y_3.1 /\ wiZ y_3.2.1 /\ True) -> decQ y.1 y_3.1 y_3.2.1 = true -> List.length y_1.1 <= (10000000 : Nat) /\ (∀ (y_4
  : List q81 × Int × Unit), (Kd.wf q152 y_4.1 /\ wiZ y_4.2.1 /\ True) -> parN y_1.1 y_4.1 y_4.2.1 = true -> (decide (y.2.1 = q172) = true -> True) /\ (decide (y.2.1 = q172) = true -> (decide
  (y.2.1 = q172) == true) = true /\ True) /\ (decide (y.2.1 = q172) = true -> (decide (y.2.1 = q172) == true) = true) /\ ((q165 y y_1) = true -> True) /\ ((q165 y y_1) = true -> ((q165 y y_1)
  == true) = true /\ True) /\ ((q165 y y_1) = true -> ((q165 y y_1) == true) = true) /\ ((q164 y y_1 y_3) = true -> True) /\ ((q164 y y_1 y_3) = true -> ((q164 y y_1 y_3) == true) = true /\
  True) /\ ((q164 y y_1 y_3) = true -> ((q164 y y_1 y_3) == true) = true) /\ ((q161 y y_1 y_3 y_4) = true -> True) /\ ((q161 y y_1 y_3 y_4) = true -> True) /\ ((q161 y y_1 y_3 y_4) = true ->
  ((q161 y y_1 y_3 y_4) == true) = true /\ ((q161 y y_1 y_3 y_4) == true) = true /\ (List.length y_3.1 <= q69 /\ List.length x.1 <= q69) /\ (∀ (y : q9), (q57 y) -> (y_3.1 = x.1 -> y.1 = true)
  -> (y.1 = true -> True) /\ (y.1 = true -> True) /\ (y.1 = true -> (y.1 == true) = true /\ (y.1 == true) = true /\ (List.length y_4.1 <= q69 /\ List.length x.1 <= q69) /\ (∀ (y : q9), (q57
  y) -> (y_4.1 = x.1 -> y.1 = true) -> (y.1 = true -> True) /\ (y.1 = true -> True) /\ (y.1 = true -> (y.1 == true) = true /\ (y.1 == true) = true /\ (List.length y_3.1 <= q69 /\ List.length
  x.1 <= q69 /\ (∀ (a : q14), a ∈ y_3.1 -> List.length a.2 <= q65) /\ ∀ (a : q14), a ∈ x.1 -> List.length a.2 <= q65) /\ (∀ (y : q9), (q57 y) -> y.1 = sameN y_3.1 x.1 -> (y.1 = true -> True
  /\ (∀ (y : q9), (q57 y) -> y.1 = true -> y.1 = true) /\ True) /\ (y.1 = !true -> false = true)) /\ True) /\ (y.1 = !true -> false = true)) /\ True) /\ (y.1 = !true -> false = true)) /\
  True) /\ ((q161 y y_1 y_3 y_4) = !true -> false = true)) /\ True) /\ True)) /\ True) /\ True) /\ True
theorem e3 : t3 = Con.vc c_law12_NameBack GL (mkEnvO ty [(10, conSem c_name_Encode), (11, conSem c_name_Text), (12, conSem c_name_May), (14, conSem c_name_Decode), (15, conSem c_name_Parse), (16, conSem c_law12_alike), (17, conSem c_name_Same), (13, conSem c_law12_there)] [] [] [0, 2, 3, 4, 5, 6, 7, 8, 9, 10, 23] [1000000]) {} Tryd.f3.ntmps Tryd.f3.results.toList (bodyOf Tryd.f3) := by kernel_rfl
theorem k3 : t3 := by
  unfold t3
  delta q15 q82 q152 q69 q0 wyZ wiZ wsZ q9 q57 q196 q195 q159 q163 q162 q160 q65 q81 q172 q165 q164 q161 q14 q174 wbZ lnZ q212
  rintro ⟨n, _⟩ hx hp
  have hp : Kd.bulk (Kd.sl AT) n + 0 ≤ 1048576 := hp
  obtain ⟨b1, b2⟩ := bulk_attrs n
  have hl : n.length ≤ 1048576 := by omega
  have hv : ∀ a ∈ n, a.2.length ≤ 100000000 := fun a ha => by have := b1 a ha; omega
  clear hp hx b1 b2
  try dsimp +instances only [dft_int, dft_sl, dft_str]
  simp only [true_and, and_true, eq_self_iff_true, implies_true, reduceCtorEq, false_implies, true_implies, decide_eq_true_eq, decide_eq_false_iff_not, beq_self_eq_true, Bool.not_eq_true', ne_eq, Decidable.not_not, List.nil_append, List.length_singleton, List.length_cons, List.length_nil, Nat.zero_add, Nat.add_zero, Nat.mul_one, and_self, beq_iff_eq, Bool.not_true, Bool.not_false, Bool.not_eq_false', Bool.cond_false_right, Bool.and_eq_true, imp_self, Bool.not_eq_true, Bool.cond_true_left, Bool.or_eq_true]
  simp only [all_bool]
  have G : n.length ≤ 1000000000 := by omega
  refine ⟨G, ?_⟩
  rintro ⟨b, e, _⟩ _ h1
  refine ⟨G, ?_⟩
  rintro ⟨s, f, _⟩ _ h2
  simp only at h1 h2 ⊢
  refine ⟨fun hm hf => ?_, fun hm => ?_⟩
  . rw [EncN, if_neg (by rw [hm]; decide)] at h1
    rw [TextN, if_neg (by rw [hm]; decide)] at h2
    obtain ⟨rfl, rfl⟩ := Prod.mk.inj h1
    obtain ⟨rfl, rfl⟩ := Prod.mk.inj h2
    have hb : bs { data := #[] } = [] := rfl
    rw [hb] at hf
    simp at hf
  . rw [EncN, if_pos hm] at h1
    rw [TextN, if_pos hm] at h2
    obtain ⟨rfl, rfl⟩ := Prod.mk.inj h1
    obtain ⟨rfl, rfl⟩ := Prod.mk.inj h2
    have l1 := encN_len hm
    have l2 : (textN n).length ≤ 10000000 := by
      have := mayN_args hm
      have h3 := txtN_len this.2 n.length (Nat.le_refl _)
      rw [txtN_all (Nat.le_refl _)] at h3
      omega
    refine ⟨by rw [lenB]; omega, ?_⟩
    rintro ⟨x, g, _⟩ _ h3
    obtain ⟨rfl, rfl⟩ := decQ_of hm h3
    refine ⟨l2, ?_⟩
    rintro ⟨y, h, _⟩ _ h4
    obtain ⟨rfl, rfl⟩ := parN_of hm h4
    have hs : sameN y y = true := (same_iff y y).2 ⟨begins_refl y, begins_refl y⟩
    refine ⟨fun _ => ⟨⟨⟨⟨rfl, rfl⟩, rfl⟩, rfl⟩, ⟨⟨⟨rfl, rfl⟩, rfl⟩, rfl⟩, ⟨G, G⟩, ?_⟩, fun hh => by simp at hh⟩
    rintro ⟨q, _⟩ _ hq
    obtain rfl : q = true := hq rfl
    refine ⟨fun _ => ⟨rfl, rfl, ⟨G, G⟩, ?_⟩, fun hh => by cases hh⟩
    rintro ⟨q, _⟩ _ hq
    obtain rfl : q = true := hq rfl
    exact ⟨fun _ => ⟨rfl, rfl, ⟨G, G, hv, hv⟩, fun hh => by rw [hs] at hh; cases hh⟩, fun hh => by cases hh⟩
theorem h3 : c_law12_NameBack.ok Tryd.prog GL 3 := conO_ok (H := {}) (mkEnvO_ok (gl := GL) (l := [(10, conSem c_name_Encode), (11, conSem c_name_Text), (12, conSem c_name_May), (14, conSem c_name_Decode), (15, conSem c_name_Parse), (16, conSem c_law12_alike), (17, conSem c_name_Same), (13, conSem c_law12_there)]) (q := []) (d := []) _ [1000000] tyOk (by kernel_rfl) ⟨h10.call, h11.call, h12.call, h14.call, h15.call, h16.call, h17.call, h13.call, trivial⟩ trivial trivial) (by kernel_rfl) (by kernel_rfl) (Eq.mp e3 k3)
end Go.Proofs.YtbdfeddakniaeaaDoor
end
section
namespace Go.Proofs.YtbdfeddakniaeaaDoor
open Go Go.Vc Go.Pl Go.Proofs
set_option maxRecDepth 100000 in
theorem glOk {w : World} (hL : laidMetH Tryd.prog [("unicode/utf8.acceptRanges", Rows.laid_unicode_utf8_acceptRanges), ("unicode/utf8.first", Rows.laid_unicode_utf8_first)] w) (hS : w.ShapedOpen Tryd.prog) : GlOk GL w (fun _ => False) := by
  have hL : laidMet Tryd.prog [("unicode/utf8.acceptRanges", Rows.laid_unicode_utf8_acceptRanges), ("unicode/utf8.first", Rows.laid_unicode_utf8_first)] w := hL
  have h0 := Lib.laidMet.reads hL (n := "unicode/utf8.first") (d := Rows.laid_unicode_utf8_first) (by simp)
  have h1 := Lib.laidMet.reads hL (n := "unicode/utf8.acceptRanges") (d := Rows.laid_unicode_utf8_acceptRanges) (by simp)
  obtain ⟨m, hm⟩ := Tryd.laysM219.s1_3 w hS
  have hm : w.cell? ⟨0, 0, none⟩ = some (.int .i64 m) := hm
  obtain ⟨fs, hs, hf, ho⟩ := pairB_eq (P := Tryd.prog) (e := 207) (k := .u8) (by kernel_rfl)
  have k0 := gl_ints (P := Tryd.prog) (w := w) (g := 1) (t := 205) (e := 5) (n := 256) (k := .u8) (zs := Lib.firstTab) (by kernel_rfl) (by kernel_rfl) (by kernel_rfl) (by kernel_rfl) (by kernel_rfl) (by kernel_rfl) (by kernel_rfl) (of_decide_eq_true (by kernel_rfl)) (by kernel_rfl) h0
  have k1 := gl_pairs (P := Tryd.prog) (w := w) (g := 2) (t := 208) (e := 207) (n := 16) (k := .u8) (zs := accTab) (by kernel_rfl) (by kernel_rfl) (by kernel_rfl) hs hf ho (by kernel_rfl) (by kernel_rfl) (by kernel_rfl) (of_decide_eq_true (by kernel_rfl)) (by kernel_rfl) (by kernel_rfl) h1
  intro g v hg
  rcases gl_cons hg with ⟨rfl, rfl⟩ | hg
  . exact k0
  rcases gl_cons hg with ⟨rfl, rfl⟩ | hg
  . exact k1
  obtain ⟨rfl, rfl⟩ := gl_one hg
  exact ⟨cell_lt hm, id, m, hm⟩
end Go.Proofs.YtbdfeddakniaeaaDoor
end
section
namespace Go.Proofs.YtbdfeddakniaeaaDoor
open Go Go.Vc Go.Pl Go.Proofs
end Go.Proofs.YtbdfeddakniaeaaDoor
end
