/- Walks. -/
import Derived.Test.YtkdffofjnjamlaaDoorZOidtA
set_option linter.unusedVariables false
set_option linter.unusedSimpArgs false
namespace Go.Proofs.YtkdffofjnjamlaaDoor
open Go Go.Vc Go.Pl Go.Proofs
set_option linter.unusedVariables false
set_option linter.unusedSimpArgs false
theorem h23 : c_strconv_Itoa.ok Tryd.prog GL 23 := by
  refine lib_ok (ks := [I64]) (rs := [Kd.str]) Tryd.func23 (by kernel_rfl) (by decide) ?_
  rintro w F ⟨n, u⟩ vs h hg hp
  obtain ⟨v1, r1, rfl, h1, rfl⟩ := h
  obtain ⟨rfl, hn⟩ := VRep_int.1 h1
  have hn2 : -9223372036854775808 ≤ n ∧ n ≤ 9223372036854775807 := hn
  obtain ⟨_, _, ht⟩ := hg 2 (.raw (Lib.pow10Tab.map fun z => Value.int .u64 z)) rfl
  have htab := tabIs_raw (P := Tryd.prog) (name := "internal/strconv.uint64pow10") (by kernel_rfl) ht
  refine Calls.mono (Tryd.strconv_Itoa n hn2.1 hn2.2 w htab) ?_
  rintro e w' ⟨rfl, k, os, rfl⟩
  refine ⟨kept_grow w k os, [_], (itoaD n, ()), rfl, rfl, _, [], rfl, VRep_str.2 ⟨_, rfl, itoa_bs n, ?_⟩, rfl⟩
  have := itoa_len hn2.1 hn2.2
  show (Lib.itoa n).toArray.size ≤ _
  simp only [List.size_toArray]
  omega
theorem h24 : c_strings_Join.ok Tryd.prog GL 24 := by
  refine lib_ok (ks := [Kd.sl .str, Kd.str]) (rs := [Kd.str]) Tryd.func24 (by kernel_rfl) (by decide) ?_
  rintro w F ⟨l, m, u⟩ vs h hg hp
  obtain ⟨v1, r1, rfl, h1, v2, r2, rfl, h2, rfl⟩ := h
  obtain ⟨A, c, rfl, hc1, hc2, hA⟩ := VRep_sl.1 h1
  obtain ⟨t, rfl, rfl, ht⟩ := VRep_str.1 h2
  obtain ⟨p1, p2⟩ := hp
  simp only at p1 p2 hA hc1
  by_cases hl : l = []
  · subst hl
    refine Calls.mono (Tryd.strings_Join_none A c t w) ?_
    rintro e w' ⟨rfl, rfl⟩
    exact ⟨Kept.refl _ _, [_], ([], ()), rfl, rfl, _, [], rfl, VRep_str.2 ⟨⟨#[]⟩, rfl, rfl, by decide⟩, rfl⟩
  · obtain ⟨ad, rfl, hb, _, hE⟩ := hA hl
    obtain ⟨hs, xs, rfl, hx⟩ := texts_of hE
    obtain ⟨bk, o, sp⟩ := ad
    have hs : sp = none := hs hl
    subst hs
    have hlen : xs.length = (xs.map bs).length := (List.length_map ..).symm
    have hj := congrArg List.length (join_bs xs t)
    rw [bs_u8s, List.length_map] at hj
    have hc : ∀ (j : Nat) (x : ByteArray), xs[j]? = some x → w.cell? ⟨bk, o + j, none⟩ = some (.string x) := fun j x hx2 => by
      have := hx j x hx2
      rwa [addr_add] at this
    have hJ := Tryd.strings_Join bk o c xs t w hc hb (by omega) (by omega) (by omega)
    rw [hlen] at hJ
    refine Calls.mono hJ ?_
    rintro e w' ⟨rfl, hbl⟩
    refine ⟨below_kept hbl, [_], (joinO (xs.map bs) (bs t), ()), rfl, rfl, _, [], rfl, VRep_str.2 ⟨_, rfl, join_bs xs t, ?_⟩, rfl⟩
    show (Lib.join (xs.map (·.data.toList)) t.data.toList).toArray.size ≤ _
    simp only [List.size_toArray]
    omega
def t25 : Prop :=
  ∀ (x : Int × Unit),
    Kd.wf (Kd.int IntKind.i64) x.fst ∧ True →
      (0 : Int) ≤ x.fst ∧ x.fst ≤ (2147483647 : Int) →
        ∃ (I : List Int × Int × Unit → Unit → Prop),
          ∃ (μ : List Int × Int × Unit → Unit → Nat),
            (bs { data := #[] } = bs { data := #[] } ∧ I (bs { data := #[] }, x.fst, ()) ()) ∧
              ∀ (y : List Int × Int × Unit) (z : Unit),
                Kd.wf Kd.str y.fst ∧ Kd.wf (Kd.int IntKind.i64) y.snd.fst ∧ True →
                  True →
                    I y z →
                      (decide ((9 : Int) < y.snd.fst) = true →
                          (10 : Int) ≠ (0 : Int) ∧
                            List.length [IntKind.wrap IntKind.u8 (IntKind.wrap IntKind.i64 ((48 : Int) + Int.tmod y.snd.fst (10 : Int)))] + List.length y.fst ≤ (9223372036854775807 : Nat) ∧
                              (10 : Int) ≠ (0 : Int) ∧
                                bs { data := #[] } = bs { data := #[] } ∧
                                  I
                                      ([IntKind.wrap IntKind.u8 (IntKind.wrap IntKind.i64 ((48 : Int) + Int.tmod y.snd.fst (10 : Int)))] ++ y.fst,
                                        IntKind.wrap IntKind.i64 (Int.tdiv y.snd.fst (10 : Int)), ())
                                      () ∧
                                    μ
                                        ([IntKind.wrap IntKind.u8 (IntKind.wrap IntKind.i64 ((48 : Int) + Int.tmod y.snd.fst (10 : Int)))] ++ y.fst,
                                          IntKind.wrap IntKind.i64 (Int.tdiv y.snd.fst (10 : Int)), ())
                                        () <
                                      μ y z) ∧
                        (decide ((9 : Int) < y.snd.fst) = false →
                          List.length [IntKind.wrap IntKind.u8 (IntKind.wrap IntKind.i64 ((48 : Int) + y.snd.fst))] + List.length y.fst ≤ (9223372036854775807 : Nat) ∧
                            [IntKind.wrap IntKind.u8 (IntKind.wrap IntKind.i64 ((48 : Int) + y.snd.fst))] ++ y.fst = digD x.fst)
theorem e25 : t25 = Con.vc c_r03_Digits GL (mkEnv ty [] [] [] [0, 2, 3, 5]) {} Tryd.f25.ntmps Tryd.f25.results.toList (bodyOf Tryd.f25) := by kernel_rfl
theorem k25 : t25 := by
  unfold t25
  rintro ⟨n, _⟩ hx hp
  obtain ⟨p1, p2⟩ := hp
  simp only at p1 p2
  try dsimp +instances only [dft_int, dft_sl, dft_str]
  simp only [true_and, and_true, eq_self_iff_true, implies_true, reduceCtorEq, false_implies, true_implies, decide_eq_true_eq, decide_eq_false_iff_not, beq_self_eq_true, Bool.not_eq_true', ne_eq, Decidable.not_not, List.nil_append, List.length_singleton, List.length_cons, List.length_nil, Nat.zero_add, Nat.add_zero, Nat.mul_one, and_self, beq_iff_eq, Bool.not_true, Bool.not_false, Bool.not_eq_false', Bool.cond_false_right, Bool.and_eq_true, imp_self, Bool.not_eq_true, Bool.cond_true_left, Bool.or_eq_true]
  rw [bs_nil]
  have hl := dig_len p2
  have hm : ∀ m : Int, 0 ≤ m → m ≤ 2147483647 → IntKind.wrap .u8 (IntKind.wrap .i64 (48 + m.tmod 10)) = 48 + m % 10 ∧ IntKind.wrap .i64 (m.tdiv 10) = m / 10 := fun m h0 h1 => by
    rw [Int.tmod_eq_emod_of_nonneg h0, Int.tdiv_eq_ediv_of_nonneg h0, wrapK (48 + m % 10) (by omega) (by omega), wrapK (m / 10) (by omega) (by omega), wrap_u8]
    exact ⟨by omega, rfl⟩
  refine ⟨fun y _ => 0 ≤ y.2.1 ∧ y.2.1 ≤ 2147483647 ∧ digD n = digD y.2.1 ++ y.1, fun y _ => y.2.1.toNat, ⟨p1, p2, by simp⟩, ?_⟩
  rintro ⟨s, m, _⟩ _ _ ⟨m0, m1, e⟩
  simp only at m0 m1 e ⊢
  obtain ⟨k1, k2⟩ := hm m m0 m1
  have hs : s.length ≤ 10 := by
    have := congrArg List.length e
    rw [List.length_append] at this
    omega
  rw [k1, k2]
  refine ⟨fun h => ⟨by decide, by omega, by decide, ⟨by omega, by omega, ?_⟩, by omega⟩, fun h => ⟨by omega, ?_⟩⟩
  · rw [e, dig_big h, List.append_assoc]
  · rw [e, dig_small m0 (by omega), wrapK (48 + m) (by omega) (by omega), wrap_u8]
    simp only [List.singleton_append]
    congr 1
    omega
theorem h25 : c_r03_Digits.ok Tryd.prog GL 25 := con_ok (H := {}) (mkEnv_ok (gl := GL) (l := []) (q := []) (d := []) _ tyOk (by kernel_rfl) trivial trivial trivial) (by kernel_rfl) (by kernel_rfl) (Eq.mp e25 k25)

def t10 : Prop :=
  ∀ (x : List Int × Unit),
    Kd.wf (Kd.sl (Kd.int IntKind.i64)) x.fst ∧ True →
      True →
        True ∧
          (∀ (y : Bool × Unit),
              Kd.wf Kd.bool y.fst ∧ True →
                y.fst = mayO x.fst →
                  ((!y.fst) = true → (bs { data := #[] }, (2 : Int)) = TxtO x.fst) ∧
                    ((!y.fst) = false →
                      ∃ (I : Int × Unit → List (List Int) × Unit → Prop),
                        ∃ (μ : Int × Unit → List (List Int) × Unit → Nat),
                          ((↑(List.length x.fst) : Int) = (↑(List.length x.fst) : Int) ∧
                              x.fst = x.fst ∧ Value.bool false = Value.bool false ∧ (0 : Int) = (0 : Int) ∧ bs { data := #[] } = bs { data := #[] } ∧ x.fst = x.fst ∧ I ((0 : Int), ()) ([], ())) ∧
                            ∀ (y : Int × Unit) (z : List (List Int) × Unit),
                              Kd.wf (Kd.int IntKind.i64) y.fst ∧ True →
                                Kd.wf (Kd.sl Kd.str) z.fst ∧ True →
                                  I y z →
                                    (decide (y.fst < (↑(List.length x.fst) : Int)) = true →
                                        ((0 : Int) ≤ y.fst ∧ y.fst < (↑(List.length x.fst) : Int)) ∧
                                          True ∧
                                            (∀ (y_1 : List Int × Unit),
                                                Kd.wf Kd.str y_1.fst ∧ True →
                                                  y_1.fst = itoaD (List.getD x.fst (Int.toNat y.fst) (Kd.dft (Kd.int IntKind.i64))) →
                                                    (0 : Nat) < (1 : Nat) ∧
                                                      (List.length z.fst + List.length [y_1.fst]) * (16 : Nat) ≤ (140737488355328 : Nat) ∧
                                                        List.length z.fst + List.length [y_1.fst] ≤ (9223372036854775807 : Nat) ∧
                                                          (↑(List.length x.fst) : Int) = (↑(List.length x.fst) : Int) ∧
                                                            x.fst = x.fst ∧
                                                              Value.bool false = Value.bool false ∧
                                                                (0 : Int) = (0 : Int) ∧
                                                                  bs { data := #[] } = bs { data := #[] } ∧
                                                                    x.fst = x.fst ∧
                                                                      I (IntKind.wrap IntKind.i64 (y.fst + (1 : Int)), ()) (z.fst ++ [y_1.fst], ()) ∧
                                                                        μ (IntKind.wrap IntKind.i64 (y.fst + (1 : Int)), ()) (z.fst ++ [y_1.fst], ()) < μ y z) ∧
                                              True) ∧
                                      (decide (y.fst < (↑(List.length x.fst) : Int)) = false →
                                        (List.length z.fst ≤ (1000000 : Nat) ∧ List.length (joinO z.fst (bs { data := #[(46 : UInt8)] })) ≤ (1000000000 : Nat)) ∧
                                          (∀ (y : List Int × Unit), Kd.wf Kd.str y.fst ∧ True → y.fst = joinO z.fst (bs { data := #[(46 : UInt8)] }) → (y.fst, (0 : Int)) = TxtO x.fst) ∧ True))) ∧
            True
theorem e10 : t10 = Con.vc c_oid_Text GL (mkEnv ty [(12, conSem c_oid_May), (23, conSem c_strconv_Itoa), (24, conSem c_strings_Join)] [] [] [0, 2, 3, 4, 6, 9, 10, 11, 12, 13]) {} Tryd.f10.ntmps Tryd.f10.results.toList (bodyOf Tryd.f10) := by kernel_rfl
theorem k10 : t10 := by
  unfold t10
  rintro ⟨l, _⟩ hx hp
  try dsimp +instances only [dft_int, dft_sl, dft_str]
  simp only [true_and, and_true, eq_self_iff_true, implies_true, reduceCtorEq, false_implies, true_implies, decide_eq_true_eq, decide_eq_false_iff_not, beq_self_eq_true, Bool.not_eq_true', ne_eq, Decidable.not_not, List.nil_append, List.length_singleton, List.length_cons, List.length_nil, Nat.zero_add, Nat.add_zero, Nat.mul_one, and_self, beq_iff_eq, Bool.not_true, Bool.not_false, Bool.not_eq_false', Bool.cond_false_right, Bool.and_eq_true, imp_self, Bool.not_eq_true, Bool.cond_true_left, Bool.or_eq_true]
  simp only [all_bool, all_str]
  refine ⟨fun h => by rw [TxtO, h, bs_nil]; rfl, fun h => ?_⟩
  obtain ⟨h1, h2, h3, h4, h5⟩ := may_args h
  have hg : ∀ i, i < l.length → 0 ≤ l.getD i 0 ∧ l.getD i 0 ≤ 2147483647 := fun i hi => h3 _ (by
    rw [List.getD_eq_getElem?_getD, List.getElem?_eq_getElem hi]
    exact List.getElem_mem _)
  rw [show bs { data := #[46] } = [46] by decide]
  refine ⟨fun y z => 0 ≤ y.1 ∧ y.1 ≤ l.length ∧ z.1 = (l.take y.1.toNat).map digD, fun y _ => ((l.length : Int) - y.1).toNat, ⟨Int.le_refl 0, by simp only; omega, by simp⟩, ?_⟩
  rintro ⟨i, _⟩ ⟨z, _⟩ _ _ ⟨i0, i1, ez⟩
  simp only at i0 i1 ez ⊢
  have hw1 : IntKind.wrap .i64 (i + 1) = i + 1 := wrapK _ (by omega) (by omega)
  have hz : z.length ≤ 20 := by rw [ez, List.length_map, List.length_take]; omega
  rw [hw1]
  refine ⟨fun hlt => ⟨⟨i0, hlt⟩, fun _ => ⟨by decide, by omega, by omega, ⟨by omega, by omega, ?_⟩, by omega⟩⟩, fun hge => ?_⟩
  · rw [itoa_pos (hg i.toNat (by omega)).1, show (i + 1).toNat = i.toNat + 1 by omega, take_snocO (by omega), List.map_append, ez]
    rfl
  · have e : joinO z [46] = txtO l := by rw [ez, List.take_of_length_le (by omega), join_txt (by omega)]
    have l1 := txtP_len (l := l) (fun i hi => (hg i hi).2) l.length (by omega) (by omega)
    rw [txtP_all (by omega)] at l1
    rw [e]
    exact ⟨⟨by omega, by omega⟩, fun _ => by rw [TxtO, h]; rfl⟩
theorem h10 : c_oid_Text.ok Tryd.prog GL 10 := con_ok (H := {}) (mkEnv_ok (gl := GL) (l := [(12, conSem c_oid_May), (23, conSem c_strconv_Itoa), (24, conSem c_strings_Join)]) (q := []) (d := []) _ tyOk (by kernel_rfl) ⟨h12.call, h23.call, h24.call, trivial⟩ trivial trivial) (by kernel_rfl) (by kernel_rfl) (Eq.mp e10 k10)

def t11 : Prop :=
  ∀ (x : List Int × Unit),
    Kd.wf (Kd.sl (Kd.int IntKind.i64)) x.fst ∧ True →
      True →
        True ∧
          (∀ (y : Bool × Unit),
              Kd.wf Kd.bool y.fst ∧ True →
                y.fst = mayO x.fst →
                  ((!y.fst) = true → (bs { data := #[] }, (2 : Int)) = TxtO x.fst) ∧
                    ((!y.fst) = false →
                      ((0 : Int) ≤ (0 : Int) ∧ (0 : Int) < (↑(List.length x.fst) : Int)) ∧
                        ((0 : Int) ≤ List.getD x.fst (0 : Nat) (Kd.dft (Kd.int IntKind.i64)) ∧ List.getD x.fst (0 : Nat) (Kd.dft (Kd.int IntKind.i64)) ≤ (2147483647 : Int)) ∧
                          (∀ (y : List Int × Unit),
                              Kd.wf Kd.str y.fst ∧ True →
                                y.fst = digD (List.getD x.fst (0 : Nat) (Kd.dft (Kd.int IntKind.i64))) →
                                  ∃ (I : Int × List Int × Unit → Unit → Prop),
                                    ∃ (μ : Int × List Int × Unit → Unit → Nat),
                                      (Value.bool false = Value.bool false ∧ (0 : Int) = (0 : Int) ∧ bs { data := #[] } = bs { data := #[] } ∧ x.fst = x.fst ∧ I ((1 : Int), y.fst, ()) ()) ∧
                                        ∀ (y : Int × List Int × Unit) (z : Unit),
                                          Kd.wf (Kd.int IntKind.i64) y.fst ∧ Kd.wf Kd.str y.snd.fst ∧ True →
                                            True →
                                              I y z →
                                                (decide (y.fst < (↑(List.length x.fst) : Int)) = true →
                                                    List.length y.snd.fst + (1 : Nat) ≤ (9223372036854775807 : Nat) ∧
                                                      ((0 : Int) ≤ y.fst ∧ y.fst < (↑(List.length x.fst) : Int)) ∧
                                                        ((0 : Int) ≤ List.getD x.fst (Int.toNat y.fst) (Kd.dft (Kd.int IntKind.i64)) ∧
                                                            List.getD x.fst (Int.toNat y.fst) (Kd.dft (Kd.int IntKind.i64)) ≤ (2147483647 : Int)) ∧
                                                          (∀ (y_1 : List Int × Unit),
                                                              Kd.wf Kd.str y_1.fst ∧ True →
                                                                y_1.fst = digD (List.getD x.fst (Int.toNat y.fst) (Kd.dft (Kd.int IntKind.i64))) →
                                                                  List.length (y.snd.fst ++ bs { data := #[(46 : UInt8)] }) + List.length y_1.fst ≤ (9223372036854775807 : Nat) ∧
                                                                    Value.bool false = Value.bool false ∧
                                                                      (0 : Int) = (0 : Int) ∧
                                                                        bs { data := #[] } = bs { data := #[] } ∧
                                                                          x.fst = x.fst ∧
                                                                            I (IntKind.wrap IntKind.i64 (y.fst + (1 : Int)), y.snd.fst ++ bs { data := #[(46 : UInt8)] } ++ y_1.fst, ()) () ∧
                                                                              μ (IntKind.wrap IntKind.i64 (y.fst + (1 : Int)), y.snd.fst ++ bs { data := #[(46 : UInt8)] } ++ y_1.fst, ()) () < μ y z) ∧
                                                            True) ∧
                                                  (decide (y.fst < (↑(List.length x.fst) : Int)) = false → (y.snd.fst, (0 : Int)) = TxtO x.fst)) ∧
                            True)) ∧
            True
theorem e11 : t11 = Con.vc c_r03_Text GL (mkEnv ty [(13, conSem c_r03_May), (25, conSem c_r03_Digits)] [] [] [0, 2, 3, 4, 5, 8, 16]) {} Tryd.f11.ntmps Tryd.f11.results.toList (bodyOf Tryd.f11) := by kernel_rfl
theorem k11 : t11 := by
  unfold t11
  rintro ⟨l, _⟩ hx hp
  try dsimp +instances only [dft_int, dft_sl, dft_str]
  simp only [true_and, and_true, eq_self_iff_true, implies_true, reduceCtorEq, false_implies, true_implies, decide_eq_true_eq, decide_eq_false_iff_not, beq_self_eq_true, Bool.not_eq_true', ne_eq, Decidable.not_not, List.nil_append, List.length_singleton, List.length_cons, List.length_nil, Nat.zero_add, Nat.add_zero, Nat.mul_one, and_self, beq_iff_eq, Bool.not_true, Bool.not_false, Bool.not_eq_false', Bool.cond_false_right, Bool.and_eq_true, imp_self, Bool.not_eq_true, Bool.cond_true_left, Bool.or_eq_true]
  simp only [all_bool]
  refine ⟨fun h => by rw [TxtO, h, bs_nil]; rfl, fun h => ?_⟩
  obtain ⟨h1, h2, h3, h4, h5⟩ := may_args h
  have hg : ∀ i, i < l.length → 0 ≤ l.getD i 0 ∧ l.getD i 0 ≤ 2147483647 := fun i hi => h3 _ (by
    rw [List.getD_eq_getElem?_getD, List.getElem?_eq_getElem hi]
    exact List.getElem_mem _)
  rw [show bs { data := #[46] } = [46] by decide]
  refine ⟨⟨by omega, by omega⟩, hg 0 (by omega), ?_⟩
  rintro ⟨a, _⟩ _ ea
  simp only at ea ⊢
  refine ⟨fun y _ => 1 ≤ y.1 ∧ y.1 ≤ l.length ∧ y.2.1 = txtP l y.1.toNat, fun y _ => ((l.length : Int) - y.1).toNat, ⟨by simp, by simp only; omega, by rw [ea]; exact (txtP_one l).symm⟩, ?_⟩
  rintro ⟨i, z, _⟩ _ _ ⟨i0, i1, ez⟩
  simp only at i0 i1 ez ⊢
  have hw1 : IntKind.wrap .i64 (i + 1) = i + 1 := wrapK _ (by omega) (by omega)
  have l1 := txtP_len (l := l) (fun i hi => (hg i hi).2) i.toNat (by omega) (by omega)
  rw [← ez] at l1
  rw [hw1]
  refine ⟨fun hlt => ⟨by omega, ⟨by omega, hlt⟩, hg i.toNat (by omega), ?_⟩, fun hge => ?_⟩
  · rintro ⟨c, _⟩ _ ec
    simp only at ec ⊢
    have l2 := dig_len (hg i.toNat (by omega)).2
    rw [← ec] at l2
    refine ⟨by rw [List.length_append, List.length_singleton]; omega, ⟨by omega, by omega, ?_⟩, by omega⟩
    rw [show (i + 1).toNat = i.toNat + 1 by omega, txtP_step (by omega) (by omega), ez, ec]
  · rw [TxtO, h, if_pos rfl, ez, txtP_all (by omega)]
theorem h11 : c_r03_Text.ok Tryd.prog GL 11 := con_ok (H := {}) (mkEnv_ok (gl := GL) (l := [(13, conSem c_r03_May), (25, conSem c_r03_Digits)]) (q := []) (d := []) _ tyOk (by kernel_rfl) ⟨h13.call, h25.call, trivial⟩ trivial trivial) (by kernel_rfl) (by kernel_rfl) (Eq.mp e11 k11)

end Go.Proofs.YtkdffofjnjamlaaDoor
