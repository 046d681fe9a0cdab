/- Texts of a verified walk, led together: Gl03pA, Gl03pW, StrsA, StrsW, AtoiA, AtoiW, OidA, OidW, OidtA, OidtW. -/
import Derived.Test.YtkdffofjnjamlaaDoorZV05
import Derived.Test.YtkdffofjnjamlaaDoorZTy
import Derived.Test.YtkdffofjnjamlaaDoorZV06
import Derived.Test.YtkdffofjnjamlaaDoorZShelf
import Derived.Shelf.Strconv.AtoiAll
import Derived.Lib.AtoiAllCases
import Derived.Lib.AtoiErrMem
set_option linter.unusedVariables false
set_option linter.unusedSimpArgs false
section
/- Contracts. -/
namespace Go.Proofs.YtkdffofjnjamlaaDoor
open Go Go.Vc Go.Pl Go.Proofs
def GL : Gl := [(2, .raw (Lib.pow10Tab.map fun z => Value.int .u64 z)), (0, .ifc), (1, .ifc), (3, .num .i64)]

end Go.Proofs.YtkdffofjnjamlaaDoor
end
section
/- Walks. -/
namespace Go.Proofs.YtkdffofjnjamlaaDoor
open Go Go.Vc Go.Pl Go.Proofs
end Go.Proofs.YtkdffofjnjamlaaDoor
end
section
/- Contracts. -/
namespace Go.Proofs.YtkdffofjnjamlaaDoor
open Go Go.Vc Go.Pl Go.Proofs
def c_bytealg_IndexByteString : Con := { args := [Kd.str, U8].map .dat, res := [.dat I64], pre := fun _ => True, post := fun x y => y.1 = idxB x.1 x.2.1 }
def c_stringslite_IndexByte : Con := { args := [.dat .str, .dat U8], res := [.dat I64], pre := fun _ => True, post := fun x y => y.1 = idxB x.1 x.2.1 }
def c_strings_IndexByte : Con := { args := [.dat .str, .dat U8], res := [.dat I64], pre := fun _ => True, post := fun x y => y.1 = idxB x.1 x.2.1 }
def c_stringslite_Index : Con := { args := [Kd.str, Kd.str].map .dat, res := [I64].map .dat, pre := fun x => x.1.length < 4294967281, post := fun x y => y.1 = idxS x.1 x.2.1 }
def c_strings_Index : Con := { args := [.dat .str, .dat .str], res := [.dat I64], pre := fun x => x.1.length < 4294967281, post := fun x y => y.1 = idxS x.1 x.2.1 }
def c_strings_Contains : Con := { args := [.dat .str, .dat .str], res := [.dat .bool], pre := fun x => x.1.length < 4294967281, post := fun x y => y.1 = decide (0 ≤ idxS x.1 x.2.1) }
def c_stringslite_Cut : Con := { args := [.dat .str, .dat .str], res := [.dat .str, .dat .str, .dat .bool], pre := fun x => x.1.length < 4294967281 ∧ x.2.1.length = 1, post := fun x y => y.1 = (cutD (x.2.1.getD 0 0) x.1).1 ∧ y.2.1 = (cutD (x.2.1.getD 0 0) x.1).2.1 ∧ y.2.2.1 = (cutD (x.2.1.getD 0 0) x.1).2.2 }
def c_strings_Cut : Con := { args := [.dat .str, .dat .str], res := [.dat .str, .dat .str, .dat .bool], pre := fun x => x.1.length < 4294967281 ∧ x.2.1.length = 1, post := fun x y => y.1 = (cutD (x.2.1.getD 0 0) x.1).1 ∧ y.2.1 = (cutD (x.2.1.getD 0 0) x.1).2.1 ∧ y.2.2.1 = (cutD (x.2.1.getD 0 0) x.1).2.2 }
def c_stringslite_HasPrefix : Con := { args := [.dat .str, .dat .str], res := [.dat .bool], pre := fun _ => True, post := fun x y => y.1 = hasP x.2.1 x.1 }
def c_stringslite_CutPrefix : Con := { args := [.dat .str, .dat .str], res := [.dat .str, .dat .bool], pre := fun _ => True, post := fun x y => y.1 = (if hasP x.2.1 x.1 then x.1.drop x.2.1.length else x.1) ∧ y.2.1 = hasP x.2.1 x.1 }
def c_strings_CutPrefix : Con := { args := [.dat .str, .dat .str], res := [.dat .str, .dat .bool], pre := fun _ => True, post := fun x y => y.1 = (if hasP x.2.1 x.1 then x.1.drop x.2.1.length else x.1) ∧ y.2.1 = hasP x.2.1 x.1 }

end Go.Proofs.YtkdffofjnjamlaaDoor
end
section
/- Walks. -/
namespace Go.Proofs.YtkdffofjnjamlaaDoor
open Go Go.Vc Go.Pl Go.Proofs
set_option linter.unusedVariables false
set_option linter.unusedSimpArgs false
theorem h78 : CallOk Tryd.prog GL 78 (conSem c_bytealg_IndexByteString) := by
  refine ext_ok (ks := [Kd.str, U8]) (k := I64) rfl ?_
  rintro w F ⟨l, c, u⟩ vs h _
  obtain ⟨v1, r1, rfl, h1, v2, r2, rfl, h2, rfl⟩ := h
  obtain ⟨s, rfl, rfl, hs⟩ := VRep_str.1 h1
  obtain ⟨rfl, hc⟩ := VRep_int.1 h2
  have hc2 : 0 ≤ c ∧ c ≤ 255 := inr_u8.1 hc
  refine ⟨_, (Lib.indexByte s.data.toList c.toNat.toUInt8 : Int), ?_, idxB_lib _ _ hc2, VRep_int.2 ⟨rfl, ?_⟩⟩
  · rw [run_callFunc_extern Tryd.func78 (by kernel_rfl) (by kernel_rfl) (by kernel_rfl) (e := Extern.BytealgIndexByte.indexByte) (by kernel_rfl)]
    show ((Extern.BytealgIndexByte.indexByte #[.string s, .int .u8 c]).run Tryd.prog w).andThen _ = _
    rw [Lib.run_indexByteString]
    rfl
  · rw [idxB_lib _ _ hc2]
    have h1 := idxB_ge (bs s) c
    have h3 : s.size ≤ 9223372036854775807 := hs
    rw [bs_length] at h1
    show InR .i64 (idxB (bs s) c)
    generalize idxB (bs s) c = r at h1 ⊢
    simp [InR, IntKind.min, IntKind.max, IntKind.signed, IntKind.bits]
    omega
def t70 : Prop :=
  ∀ (x : List Int × Int × Unit),
    Kd.wf Kd.str x.fst ∧ Kd.wf (Kd.int IntKind.u8) x.snd.fst ∧ True →
      True → True ∧ (∀ (y : Int × Unit), Kd.wf (Kd.int IntKind.i64) y.fst ∧ True → y.fst = idxB x.fst x.snd.fst → y.fst = idxB x.fst x.snd.fst) ∧ True
theorem e70 : t70 = Con.vc c_stringslite_IndexByte GL (mkEnv ty [(78, conSem c_bytealg_IndexByteString)] [] [] [0, 1, 4]) {} Tryd.f70.ntmps Tryd.f70.results.toList (bodyOf Tryd.f70) := by kernel_rfl
theorem k70 : t70 := by
  unfold t70
  rintro ⟨l, c, _⟩ hx _
  try dsimp +instances only [dft_int, dft_sl, dft_str]
  simp only [true_and, and_true, eq_self_iff_true, implies_true, reduceCtorEq, false_implies, true_implies, decide_eq_true_eq, decide_eq_false_iff_not, beq_self_eq_true, Bool.not_eq_true', ne_eq, Decidable.not_not, List.nil_append, List.length_singleton, List.length_cons, List.length_nil, Nat.zero_add, Nat.add_zero, Nat.mul_one, and_self, beq_iff_eq, Bool.not_true, Bool.not_false, Bool.not_eq_false', Bool.cond_false_right, Bool.and_eq_true, imp_self, Bool.not_eq_true, Bool.cond_true_left, Bool.or_eq_true]
theorem h70 : c_stringslite_IndexByte.ok Tryd.prog GL 70 := con_ok (H := {}) (mkEnv_ok (gl := GL) (l := [(78, conSem c_bytealg_IndexByteString)]) (q := []) (d := []) _ tyOk (by kernel_rfl) ⟨h78, trivial⟩ trivial trivial) (by kernel_rfl) (by kernel_rfl) (Eq.mp e70 k70)

theorem h61 : c_stringslite_Index.ok Tryd.prog GL 61 := by
  refine lib_ok (ks := [Kd.str, Kd.str]) (rs := [I64]) Tryd.func61 (by kernel_rfl) (by decide) ?_
  rintro w F ⟨l, m, u⟩ vs h hg hp
  obtain ⟨v1, r1, rfl, h1, v2, r2, rfl, h2, rfl⟩ := h
  obtain ⟨s, rfl, rfl, hs⟩ := VRep_str.1 h1
  obtain ⟨t, rfl, rfl, ht⟩ := VRep_str.1 h2
  obtain ⟨_, _, k, hk⟩ := hg 3 (.num .i64) rfl
  have hp : (bs s).length < 4294967281 := hp
  rw [bs_length] at hp
  refine Calls.mono (Tryd.stringslite_Index s t k w hp hk) ?_
  rintro e w' ⟨rfl, rfl⟩
  have hb : ∀ s : ByteArray, Bys (bs s) := bs_range
  have e1 : Lib.index s.data.toList t.data.toList = idxS (bs s) (bs t) := by
    rw [← u8s_bs s, ← u8s_bs t, idxS_lib _ _ (hb s) (hb t)]
  rw [e1]
  have h1 := idxS_ge (bs s) (bs t)
  rw [bs_length] at h1
  refine ⟨Kept.refl _ _, [_], (idxS (bs s) (bs t), ()), rfl, rfl, _, [], rfl, VRep_int.2 ⟨rfl, ?_⟩, rfl⟩
  generalize idxS (bs s) (bs t) = r at h1 ⊢
  simp [InR, IntKind.min, IntKind.max, IntKind.signed, IntKind.bits]
  omega
def t47 : Prop :=
  ∀ (x : List Int × List Int × Unit),
    Kd.wf Kd.str x.fst ∧ Kd.wf Kd.str x.snd.fst ∧ True →
      List.length x.fst < (4294967281 : Nat) →
        List.length x.fst < (4294967281 : Nat) ∧ (∀ (y : Int × Unit), Kd.wf (Kd.int IntKind.i64) y.fst ∧ True → y.fst = idxS x.fst x.snd.fst → y.fst = idxS x.fst x.snd.fst) ∧ True
theorem e47 : t47 = Con.vc c_strings_Index GL (mkEnv ty [(61, conSem c_stringslite_Index)] [] [] [0, 1, 4]) {} Tryd.f47.ntmps Tryd.f47.results.toList (bodyOf Tryd.f47) := by kernel_rfl
theorem k47 : t47 := by
  unfold t47
  rintro ⟨l, c, _⟩ hx hp
  try dsimp +instances only [dft_int, dft_sl, dft_str]
  simp only [true_and, and_true, eq_self_iff_true, implies_true, reduceCtorEq, false_implies, true_implies, decide_eq_true_eq, decide_eq_false_iff_not, beq_self_eq_true, Bool.not_eq_true', ne_eq, Decidable.not_not, List.nil_append, List.length_singleton, List.length_cons, List.length_nil, Nat.zero_add, Nat.add_zero, Nat.mul_one, and_self, beq_iff_eq, Bool.not_true, Bool.not_false, Bool.not_eq_false', Bool.cond_false_right, Bool.and_eq_true, imp_self, Bool.not_eq_true, Bool.cond_true_left, Bool.or_eq_true]
  exact hp
theorem h47 : c_strings_Index.ok Tryd.prog GL 47 := con_ok (H := {}) (mkEnv_ok (gl := GL) (l := [(61, conSem c_stringslite_Index)]) (q := []) (d := []) _ tyOk (by kernel_rfl) ⟨h61.call, trivial⟩ trivial trivial) (by kernel_rfl) (by kernel_rfl) (Eq.mp e47 k47)

end Go.Proofs.YtkdffofjnjamlaaDoor
end
section
/- Contracts. -/
namespace Go.Proofs.YtkdffofjnjamlaaDoor
open Go Go.Vc Go.Pl Go.Proofs
def atoiP (l : List Int) (n : Int) (bad : Bool) : Prop := match Lib.atoiAll (u8s l) with
  | .ok v => n = v ∧ bad = false
  | _ => bad = true
def c_strconv_Atoi : Con := { args := [Kd.str].map .dat, res := [I64, Kd.err].map .dat, pre := fun x => x.1.length ≤ 1000000000, post := fun x y => atoiP x.1 y.1 y.2.1 }

end Go.Proofs.YtkdffofjnjamlaaDoor
end
section
/- Walks. -/
namespace Go.Proofs.YtkdffofjnjamlaaDoor
open Go Go.Vc Go.Pl Go.Proofs
set_option linter.unusedVariables false
set_option linter.unusedSimpArgs false
theorem h28 : c_strconv_Atoi.ok Tryd.prog GL 28 := by
  refine lib_ok (ks := [Kd.str]) (rs := [I64, Kd.err]) Tryd.func28 (by kernel_rfl) (by decide) ?_
  rintro w F ⟨l, u⟩ vs h hg hp
  obtain ⟨v1, r1, rfl, h1, rfl⟩ := h
  obtain ⟨s, rfl, rfl, hs⟩ := VRep_str.1 h1
  have hp : (bs s).length ≤ 1000000000 := hp
  rw [bs_length] at hp
  obtain ⟨_, _, ts, ps, t1, fr1, hsx⟩ := hg 0 .ifc rfl
  obtain ⟨_, _, tr, pr, t2, fr2, hrx⟩ := hg 1 .ifc rfl
  cases hA : Lib.atoiAll s.data.toList with
  | ok v =>
    refine Calls.mono (Any.strconv_Atoi_ok Tryd.laysC172 s (by omega) v hA w) ?_
    rintro e w' ⟨rfl, hw⟩
    have hk : Kept (fun _ => False) w w' := by
      rcases hw with rfl | ⟨t, rfl⟩
      · exact Kept.refl _ _
      · exact below_kept (Lib.bytesWorld_below _ _ _)
    refine ⟨hk, [_, _], (v, false, ()), rfl, (by show atoiP (bs s) v false; unfold atoiP; rw [u8s_bs, hA]; exact ⟨rfl, rfl⟩), _, [_], rfl, VRep_int.2 ⟨rfl, ?_⟩, _, [], rfl, VRep_err.2 (.inl ⟨rfl, rfl⟩), rfl⟩
    exact Lib.atoiAll_bounds hA
  | «syntax» =>
    have hv : w.cell? ⟨0, 0, none⟩ = some (.iface ts ps) := by
      unfold World.cell?
      rw [hsx]
      rfl
    refine Calls.mono (Any.strconv_Atoi_syntax Tryd.laysC172 s (by omega) hA _ w hv (.inr ⟨_, _, rfl⟩)) ?_
    rintro e w' ⟨N, rfl, _, _, hb⟩
    exact ⟨below_kept hb, [_, _], (0, true, ()), rfl, (by show atoiP (bs s) 0 true; unfold atoiP; rw [u8s_bs, hA]), _, [_], rfl, VRep_int.2 ⟨rfl, inR0 _⟩, _, [], rfl, VRep_err.2 (.inr ⟨rfl, _, _, rfl⟩), rfl⟩
  | range =>
    have hv : w.cell? ⟨1, 0, none⟩ = some (.iface tr pr) := by
      unfold World.cell?
      rw [hrx]
      rfl
    refine Calls.mono (Any.strconv_Atoi_range Tryd.laysC172 s (by omega) hA _ w hv (.inr ⟨_, _, rfl⟩)) ?_
    rintro e w' ⟨N, rfl, _, _, hb⟩
    refine ⟨below_kept hb, [_, _], (Lib.atoiSat s.data.toList, true, ()), rfl, (by show atoiP (bs s) _ true; unfold atoiP; rw [u8s_bs, hA]), _, [_], rfl, VRep_int.2 ⟨rfl, ?_⟩, _, [], rfl, VRep_err.2 (.inr ⟨rfl, _, _, rfl⟩), rfl⟩
    unfold Lib.atoiSat
    split <;> exact ⟨by decide, by decide⟩
end Go.Proofs.YtkdffofjnjamlaaDoor
end
section
/- Contracts. -/
namespace Go.Proofs.YtkdffofjnjamlaaDoor
open Go Go.Vc Go.Pl Go.Proofs
def c_oid_May : Con := { args := [.dat (.sl I64)], res := [.dat .bool], pre := fun _ => True, post := fun x y => y.1 = mayO x.1 }
def c_r03_May : Con := { args := [.dat (.sl I64)], res := [.dat .bool], pre := fun _ => True, post := fun x y => y.1 = mayO x.1 }
def c_oid_number : Con := { args := [.own 5 U8, .dat I64], res := [.own 5 U8], pre := fun x => lenI x.1 ≤ 1000 ∧ 0 ≤ x.2.1 ∧ x.2.1 ≤ 2147483647, post := fun x y => y.1 = x.1 ++ numO x.2.1 }
def c_r03_Number : Con := { args := [.dat I64], res := [.own 5 U8], pre := fun x => 0 ≤ x.1 ∧ x.1 ≤ 2147483647, post := fun x y => y.1 = numO x.1 }
def c_oid_Encode : Con := { args := [.dat (.sl I64)], res := [.own 5 U8, .dat I64], pre := fun _ => True, post := fun x y => (y.1, y.2.1) = EncO x.1 }
def c_r03_Encode : Con := { args := [.dat (.sl I64)], res := [.own 5 U8, .dat I64], pre := fun _ => True, post := fun x y => (y.1, y.2.1) = EncO x.1 }

end Go.Proofs.YtkdffofjnjamlaaDoor
end
section
/- Walks. -/
namespace Go.Proofs.YtkdffofjnjamlaaDoor
open Go Go.Vc Go.Pl Go.Proofs
set_option linter.unusedVariables false
set_option linter.unusedSimpArgs false
def t12 : Prop :=
  ∀ (x : List Int × Unit),
    Kd.wf (Kd.sl (Kd.int IntKind.i64)) x.fst ∧ True →
      True →
        (decide ((↑(List.length x.fst) : Int) < (2 : Int)) = false → True) ∧
          (decide ((↑(List.length x.fst) : Int) < (2 : Int)) = false → (decide ((↑(List.length x.fst) : Int) < (2 : Int)) == false) = true ∧ True) ∧
            (decide ((↑(List.length x.fst) : Int) < (2 : Int)) = false → (decide ((↑(List.length x.fst) : Int) < (2 : Int)) == false) = true ∧ True) ∧
              (decide ((↑(List.length x.fst) : Int) < (2 : Int)) = false → (decide ((↑(List.length x.fst) : Int) < (2 : Int)) == false) = true) ∧
                ((bif decide ((↑(List.length x.fst) : Int) < (2 : Int)) then true else decide ((20 : Int) < (↑(List.length x.fst) : Int))) = true → false = mayO x.fst) ∧
                  ((bif decide ((↑(List.length x.fst) : Int) < (2 : Int)) then true else decide ((20 : Int) < (↑(List.length x.fst) : Int))) = false →
                    ∃ (I : Int × Bool × Unit → Unit → Prop),
                      ∃ (μ : Int × Bool × Unit → Unit → Nat),
                        ((↑(List.length x.fst) : Int) = (↑(List.length x.fst) : Int) ∧ x.fst = x.fst ∧ Value.bool false = Value.bool false ∧ x.fst = x.fst ∧ I ((0 : Int), false, ()) ()) ∧
                          ∀ (y : Int × Bool × Unit) (z : Unit),
                            Kd.wf (Kd.int IntKind.i64) y.fst ∧ Kd.wf Kd.bool y.snd.fst ∧ True →
                              True →
                                I y z →
                                  (decide (y.fst < (↑(List.length x.fst) : Int)) = true →
                                      ((0 : Int) ≤ y.fst ∧ y.fst < (↑(List.length x.fst) : Int)) ∧
                                        (decide (List.getD x.fst (Int.toNat y.fst) (Kd.dft (Kd.int IntKind.i64)) < (0 : Int)) = false → True) ∧
                                          (decide (List.getD x.fst (Int.toNat y.fst) (Kd.dft (Kd.int IntKind.i64)) < (0 : Int)) = false →
                                              (decide (List.getD x.fst (Int.toNat y.fst) (Kd.dft (Kd.int IntKind.i64)) < (0 : Int)) == false) = true ∧ True) ∧
                                            (decide (List.getD x.fst (Int.toNat y.fst) (Kd.dft (Kd.int IntKind.i64)) < (0 : Int)) = false →
                                                (decide (List.getD x.fst (Int.toNat y.fst) (Kd.dft (Kd.int IntKind.i64)) < (0 : Int)) == false) = true) ∧
                                              ((bif decide (List.getD x.fst (Int.toNat y.fst) (Kd.dft (Kd.int IntKind.i64)) < (0 : Int)) then true
                                                    else decide ((2147483647 : Int) < List.getD x.fst (Int.toNat y.fst) (Kd.dft (Kd.int IntKind.i64)))) =
                                                    true →
                                                  false = mayO x.fst) ∧
                                                ((bif decide (List.getD x.fst (Int.toNat y.fst) (Kd.dft (Kd.int IntKind.i64)) < (0 : Int)) then true
                                                    else decide ((2147483647 : Int) < List.getD x.fst (Int.toNat y.fst) (Kd.dft (Kd.int IntKind.i64)))) =
                                                    false →
                                                  (↑(List.length x.fst) : Int) = (↑(List.length x.fst) : Int) ∧
                                                    x.fst = x.fst ∧
                                                      Value.bool false = Value.bool false ∧
                                                        x.fst = x.fst ∧
                                                          I (IntKind.wrap IntKind.i64 (y.fst + (1 : Int)), y.snd.fst, ()) () ∧
                                                            μ (IntKind.wrap IntKind.i64 (y.fst + (1 : Int)), y.snd.fst, ()) () < μ y z)) ∧
                                    (decide (y.fst < (↑(List.length x.fst) : Int)) = false →
                                      ((0 : Int) ≤ (0 : Int) ∧ (0 : Int) < (↑(List.length x.fst) : Int)) ∧
                                        (decide (List.getD x.fst (0 : Nat) (Kd.dft (Kd.int IntKind.i64)) = (0 : Int)) = true →
                                            ((0 : Int) ≤ (1 : Int) ∧ (1 : Int) < (↑(List.length x.fst) : Int)) ∧
                                              decide (List.getD x.fst (1 : Nat) (Kd.dft (Kd.int IntKind.i64)) < (40 : Int)) = mayO x.fst) ∧
                                          (decide (List.getD x.fst (0 : Nat) (Kd.dft (Kd.int IntKind.i64)) = (0 : Int)) = false →
                                            (decide (List.getD x.fst (0 : Nat) (Kd.dft (Kd.int IntKind.i64)) = (1 : Int)) = true →
                                                ((0 : Int) ≤ (1 : Int) ∧ (1 : Int) < (↑(List.length x.fst) : Int)) ∧
                                                  decide (List.getD x.fst (1 : Nat) (Kd.dft (Kd.int IntKind.i64)) < (40 : Int)) = mayO x.fst) ∧
                                              (decide (List.getD x.fst (0 : Nat) (Kd.dft (Kd.int IntKind.i64)) = (1 : Int)) = false →
                                                (decide (List.getD x.fst (0 : Nat) (Kd.dft (Kd.int IntKind.i64)) = (2 : Int)) = true →
                                                    ((0 : Int) ≤ (1 : Int) ∧ (1 : Int) < (↑(List.length x.fst) : Int)) ∧
                                                      decide (List.getD x.fst (1 : Nat) (Kd.dft (Kd.int IntKind.i64)) ≤ (2147483567 : Int)) = mayO x.fst) ∧
                                                  (decide (List.getD x.fst (0 : Nat) (Kd.dft (Kd.int IntKind.i64)) = (2 : Int)) = false → false = mayO x.fst)))))
theorem e12 : t12 = Con.vc c_oid_May GL (mkEnv ty [] [] [] [0, 2, 4, 12, 13, 14, 15, 16, 24, 28, 29, 36]) {} Tryd.f12.ntmps Tryd.f12.results.toList (bodyOf Tryd.f12) := by kernel_rfl
theorem k12 : t12 := by
  unfold t12
  rintro ⟨l, _⟩ hx hp
  try dsimp +instances only [dft_int, dft_sl, dft_str]
  simp only [true_and, and_true, eq_self_iff_true, implies_true, reduceCtorEq, false_implies, true_implies, decide_eq_true_eq, decide_eq_false_iff_not, beq_self_eq_true, Bool.not_eq_true', ne_eq, Decidable.not_not, List.nil_append, List.length_singleton, List.length_cons, List.length_nil, Nat.zero_add, Nat.add_zero, Nat.mul_one, and_self, beq_iff_eq, Bool.not_true, Bool.not_false, Bool.not_eq_false', Bool.cond_false_right, Bool.and_eq_true, imp_self, Bool.not_eq_true, Bool.cond_true_left, Bool.or_eq_true]
  refine ⟨fun h => (may_len h).symm, fun h => ?_⟩
  simp only [Bool.or_eq_false_iff, decide_eq_false_iff_not] at h
  refine ⟨fun y _ => 0 ≤ y.1 ∧ y.1 ≤ l.length ∧ ∀ j, j < y.1.toNat → 0 ≤ l.getD j 0 ∧ l.getD j 0 ≤ 2147483647, fun y _ => ((l.length : Int) - y.1).toNat, ⟨Int.le_refl 0, by simp only; omega, fun j hj => by simp at hj⟩, ?_⟩
  rintro ⟨i, b, _⟩ _ _ ⟨i0, i1, i2⟩
  simp only at i0 i1 i2 ⊢
  have hw1 : IntKind.wrap .i64 (i + 1) = i + 1 := wrapK _ (by omega) (by omega)
  rw [hw1]
  refine ⟨fun hlt => ⟨⟨i0, hlt⟩, fun hb => (may_in (by omega) hb).symm, fun hg => ⟨⟨by omega, by omega, fun j hj => ?_⟩, by omega⟩⟩, fun hge => ?_⟩
  · simp only [Bool.or_eq_false_iff, decide_eq_false_iff_not] at hg
    by_cases hji : j < i.toNat
    · exact i2 j hji
    · rw [show j = i.toNat by omega]; omega
  · have hr := may_rest (l := l) (by omega) (by omega) (fun j hj => i2 j (by omega))
    have h0 := i2 0 (by omega)
    rw [hr]
    refine ⟨⟨by omega, by omega⟩, fun e => ⟨⟨by omega, by omega⟩, by rw [if_pos (by omega)]⟩, fun e0 => ⟨fun e => ⟨⟨by omega, by omega⟩, by rw [if_pos (by omega)]⟩, fun e1 => ⟨fun e => ⟨⟨by omega, by omega⟩, by rw [if_neg (by omega), if_pos e]⟩, fun e2 => by rw [if_neg (by omega), if_neg e2]⟩⟩⟩
theorem h12 : c_oid_May.ok Tryd.prog GL 12 := con_ok (H := {}) (mkEnv_ok (gl := GL) (l := []) (q := []) (d := []) _ tyOk (by kernel_rfl) trivial trivial trivial) (by kernel_rfl) (by kernel_rfl) (Eq.mp e12 k12)

def t13 : Prop :=
  ∀ (x : List Int × Unit),
    Kd.wf (Kd.sl (Kd.int IntKind.i64)) x.fst ∧ True →
      True →
        (decide ((↑(List.length x.fst) : Int) < (2 : Int)) = false → True) ∧
          (decide ((↑(List.length x.fst) : Int) < (2 : Int)) = false → (decide ((↑(List.length x.fst) : Int) < (2 : Int)) == false) = true ∧ True) ∧
            (decide ((↑(List.length x.fst) : Int) < (2 : Int)) = false → (decide ((↑(List.length x.fst) : Int) < (2 : Int)) == false) = true ∧ True) ∧
              (decide ((↑(List.length x.fst) : Int) < (2 : Int)) = false → (decide ((↑(List.length x.fst) : Int) < (2 : Int)) == false) = true) ∧
                ((bif decide ((↑(List.length x.fst) : Int) < (2 : Int)) then true else decide ((20 : Int) < (↑(List.length x.fst) : Int))) = true → false = mayO x.fst) ∧
                  ((bif decide ((↑(List.length x.fst) : Int) < (2 : Int)) then true else decide ((20 : Int) < (↑(List.length x.fst) : Int))) = false →
                    ∃ (I : Int × Bool × Unit → Unit → Prop),
                      ∃ (μ : Int × Bool × Unit → Unit → Nat),
                        (Value.bool false = Value.bool false ∧ x.fst = x.fst ∧ I ((0 : Int), false, ()) ()) ∧
                          ∀ (y : Int × Bool × Unit) (z : Unit),
                            Kd.wf (Kd.int IntKind.i64) y.fst ∧ Kd.wf Kd.bool y.snd.fst ∧ True →
                              True →
                                I y z →
                                  (decide (y.fst < (↑(List.length x.fst) : Int)) = true →
                                      ((0 : Int) ≤ y.fst ∧ y.fst < (↑(List.length x.fst) : Int)) ∧
                                        (decide (List.getD x.fst (Int.toNat y.fst) (Kd.dft (Kd.int IntKind.i64)) < (0 : Int)) = false → True) ∧
                                          (decide (List.getD x.fst (Int.toNat y.fst) (Kd.dft (Kd.int IntKind.i64)) < (0 : Int)) = false → True) ∧
                                            (decide (List.getD x.fst (Int.toNat y.fst) (Kd.dft (Kd.int IntKind.i64)) < (0 : Int)) = false →
                                                (decide (List.getD x.fst (Int.toNat y.fst) (Kd.dft (Kd.int IntKind.i64)) < (0 : Int)) == false) = true ∧
                                                  (decide (List.getD x.fst (Int.toNat y.fst) (Kd.dft (Kd.int IntKind.i64)) < (0 : Int)) == false) = true ∧
                                                    ((0 : Int) ≤ y.fst ∧ y.fst < (↑(List.length x.fst) : Int)) ∧ True) ∧
                                              (decide (List.getD x.fst (Int.toNat y.fst) (Kd.dft (Kd.int IntKind.i64)) < (0 : Int)) = false →
                                                  (decide (List.getD x.fst (Int.toNat y.fst) (Kd.dft (Kd.int IntKind.i64)) < (0 : Int)) == false) = true ∧ True) ∧
                                                (decide (List.getD x.fst (Int.toNat y.fst) (Kd.dft (Kd.int IntKind.i64)) < (0 : Int)) = false →
                                                    (decide (List.getD x.fst (Int.toNat y.fst) (Kd.dft (Kd.int IntKind.i64)) < (0 : Int)) == false) = true ∧ True) ∧
                                                  (decide (List.getD x.fst (Int.toNat y.fst) (Kd.dft (Kd.int IntKind.i64)) < (0 : Int)) = false →
                                                      (decide (List.getD x.fst (Int.toNat y.fst) (Kd.dft (Kd.int IntKind.i64)) < (0 : Int)) == false) = true) ∧
                                                    ((bif decide (List.getD x.fst (Int.toNat y.fst) (Kd.dft (Kd.int IntKind.i64)) < (0 : Int)) then true
                                                          else decide ((2147483647 : Int) < List.getD x.fst (Int.toNat y.fst) (Kd.dft (Kd.int IntKind.i64)))) =
                                                          true →
                                                        false = mayO x.fst) ∧
                                                      ((bif decide (List.getD x.fst (Int.toNat y.fst) (Kd.dft (Kd.int IntKind.i64)) < (0 : Int)) then true
                                                          else decide ((2147483647 : Int) < List.getD x.fst (Int.toNat y.fst) (Kd.dft (Kd.int IntKind.i64)))) =
                                                          false →
                                                        Value.bool false = Value.bool false ∧
                                                          x.fst = x.fst ∧
                                                            I (IntKind.wrap IntKind.i64 (y.fst + (1 : Int)), y.snd.fst, ()) () ∧
                                                              μ (IntKind.wrap IntKind.i64 (y.fst + (1 : Int)), y.snd.fst, ()) () < μ y z)) ∧
                                    (decide (y.fst < (↑(List.length x.fst) : Int)) = false →
                                      ((0 : Int) ≤ (0 : Int) ∧ (0 : Int) < (↑(List.length x.fst) : Int)) ∧
                                        (decide ((2 : Int) < List.getD x.fst (0 : Nat) (Kd.dft (Kd.int IntKind.i64))) = true → false = mayO x.fst) ∧
                                          (decide ((2 : Int) < List.getD x.fst (0 : Nat) (Kd.dft (Kd.int IntKind.i64))) = false →
                                            ((0 : Int) ≤ (0 : Int) ∧ (0 : Int) < (↑(List.length x.fst) : Int)) ∧
                                              (decide (List.getD x.fst (0 : Nat) (Kd.dft (Kd.int IntKind.i64)) < (2 : Int)) = true →
                                                  ((0 : Int) ≤ (1 : Int) ∧ (1 : Int) < (↑(List.length x.fst) : Int)) ∧
                                                    decide (List.getD x.fst (1 : Nat) (Kd.dft (Kd.int IntKind.i64)) ≤ (39 : Int)) = mayO x.fst) ∧
                                                (decide (List.getD x.fst (0 : Nat) (Kd.dft (Kd.int IntKind.i64)) < (2 : Int)) = false →
                                                  ((0 : Int) ≤ (1 : Int) ∧ (1 : Int) < (↑(List.length x.fst) : Int)) ∧
                                                    decide (List.getD x.fst (1 : Nat) (Kd.dft (Kd.int IntKind.i64)) ≤ (2147483567 : Int)) = mayO x.fst))))
theorem e13 : t13 = Con.vc c_r03_May GL (mkEnv ty [] [] [] [0, 2, 3, 11, 15, 29, 33, 37]) {} Tryd.f13.ntmps Tryd.f13.results.toList (bodyOf Tryd.f13) := by kernel_rfl
theorem k13 : t13 := by
  unfold t13
  rintro ⟨l, _⟩ hx hp
  try dsimp +instances only [dft_int, dft_sl, dft_str]
  simp only [true_and, and_true, eq_self_iff_true, implies_true, reduceCtorEq, false_implies, true_implies, decide_eq_true_eq, decide_eq_false_iff_not, beq_self_eq_true, Bool.not_eq_true', ne_eq, Decidable.not_not, List.nil_append, List.length_singleton, List.length_cons, List.length_nil, Nat.zero_add, Nat.add_zero, Nat.mul_one, and_self, beq_iff_eq, Bool.not_true, Bool.not_false, Bool.not_eq_false', Bool.cond_false_right, Bool.and_eq_true, imp_self, Bool.not_eq_true, Bool.cond_true_left, Bool.or_eq_true]
  refine ⟨fun h => (may_len h).symm, fun h => ?_⟩
  simp only [Bool.or_eq_false_iff, decide_eq_false_iff_not] at h
  refine ⟨fun y _ => 0 ≤ y.1 ∧ y.1 ≤ l.length ∧ ∀ j, j < y.1.toNat → 0 ≤ l.getD j 0 ∧ l.getD j 0 ≤ 2147483647, fun y _ => ((l.length : Int) - y.1).toNat, ⟨Int.le_refl 0, by simp only; omega, fun j hj => by simp at hj⟩, ?_⟩
  rintro ⟨i, b, _⟩ _ _ ⟨i0, i1, i2⟩
  simp only at i0 i1 i2 ⊢
  have hw1 : IntKind.wrap .i64 (i + 1) = i + 1 := wrapK _ (by omega) (by omega)
  rw [hw1]
  refine ⟨fun hlt => ⟨⟨i0, hlt⟩, fun hn => ⟨hn, hn, i0, hlt⟩, fun hb => (may_in (by omega) hb).symm, fun hg => ⟨⟨by omega, by omega, fun j hj => ?_⟩, by omega⟩⟩, fun hge => ?_⟩
  · simp only [Bool.or_eq_false_iff, decide_eq_false_iff_not] at hg
    by_cases hji : j < i.toNat
    · exact i2 j hji
    · rw [show j = i.toNat by omega]; omega
  · have hr := may_rest (l := l) (by omega) (by omega) (fun j hj => i2 j (by omega))
    have h0 := i2 0 (by omega)
    rw [hr]
    refine ⟨⟨by omega, by omega⟩, fun e => by rw [if_neg (by omega), if_neg (by omega)], fun e0 => ⟨⟨by omega, by omega⟩, fun e => ⟨⟨by omega, by omega⟩, by rw [if_pos (by omega)]; exact decide_eq_decide.2 (by omega)⟩, fun e1 => ⟨⟨by omega, by omega⟩, by rw [if_neg (by omega), if_pos (by omega)]⟩⟩⟩
theorem h13 : c_r03_May.ok Tryd.prog GL 13 := con_ok (H := {}) (mkEnv_ok (gl := GL) (l := []) (q := []) (d := []) _ tyOk (by kernel_rfl) trivial trivial trivial) (by kernel_rfl) (by kernel_rfl) (Eq.mp e13 k13)

def t21 : Prop :=
  ∀ (x : List Int × Int × Unit),
    Kd.wf (Kd.sl (Kd.int IntKind.u8)) x.fst ∧ Kd.wf (Kd.int IntKind.i64) x.snd.fst ∧ True →
      lenI x.fst ≤ (1000 : Nat) ∧ (0 : Int) ≤ x.snd.fst ∧ x.snd.fst ≤ (2147483647 : Int) →
        ∃ (I : Int × Unit → Unit → Prop),
          ∃ (μ : Int × Unit → Unit → Nat),
            (Value.slice none (0 : Nat) (0 : Nat) = Value.slice none (0 : Nat) (0 : Nat) ∧ x.snd.fst = x.snd.fst ∧ x.fst = x.fst ∧ I ((0 : Int), ()) ()) ∧
              ∀ (y : Int × Unit) (z : Unit),
                Kd.wf (Kd.int IntKind.i64) y.fst ∧ True →
                  True →
                    I y z →
                      (0 : Int) ≤ y.fst ∧
                        (decide ((127 : Int) < Int.fdiv x.snd.fst ((2 : Int) ^ min (Int.toNat y.fst) (64 : Nat))) = true →
                            Value.slice none (0 : Nat) (0 : Nat) = Value.slice none (0 : Nat) (0 : Nat) ∧
                              x.snd.fst = x.snd.fst ∧ x.fst = x.fst ∧ I (IntKind.wrap IntKind.i64 (y.fst + (7 : Int)), ()) () ∧ μ (IntKind.wrap IntKind.i64 (y.fst + (7 : Int)), ()) () < μ y z) ∧
                          (decide ((127 : Int) < Int.fdiv x.snd.fst ((2 : Int) ^ min (Int.toNat y.fst) (64 : Nat))) = false →
                            ∃ (I : Int × Unit → List Int × Unit → Prop),
                              ∃ (μ : Int × Unit → List Int × Unit → Nat),
                                (Value.bool false = Value.bool false ∧ Value.slice none (0 : Nat) (0 : Nat) = Value.slice none (0 : Nat) (0 : Nat) ∧ x.snd.fst = x.snd.fst ∧ I (y.fst, ()) (x.fst, ())) ∧
                                  ∀ (y : Int × Unit) (z : List Int × Unit),
                                    Kd.wf (Kd.int IntKind.i64) y.fst ∧ True →
                                      Kd.wf (Kd.sl (Kd.int IntKind.u8)) z.fst ∧ True →
                                        I y z →
                                          (decide ((0 : Int) < y.fst) = true →
                                              (0 : Int) ≤ y.fst ∧
                                                (0 : Nat) < (1 : Nat) ∧
                                                  (List.length z.fst +
                                                          List.length
                                                            [IntKind.wrap IntKind.u8
                                                                (↑(BitVec.toNat
                                                                      (BitVec.ofInt (8 : Nat) (IntKind.wrap IntKind.u8 (Int.fdiv x.snd.fst ((2 : Int) ^ min (Int.toNat y.fst) (64 : Nat)))) |||
                                                                        BitVec.ofInt (8 : Nat) (128 : Int))) :
                                                                  Int)]) *
                                                        (1 : Nat) ≤
                                                      (140737488355328 : Nat) ∧
                                                    List.length z.fst +
                                                          List.length
                                                            [IntKind.wrap IntKind.u8
                                                                (↑(BitVec.toNat
                                                                      (BitVec.ofInt (8 : Nat) (IntKind.wrap IntKind.u8 (Int.fdiv x.snd.fst ((2 : Int) ^ min (Int.toNat y.fst) (64 : Nat)))) |||
                                                                        BitVec.ofInt (8 : Nat) (128 : Int))) :
                                                                  Int)] ≤
                                                        (9223372036854775807 : Nat) ∧
                                                      Value.bool false = Value.bool false ∧
                                                        Value.slice none (0 : Nat) (0 : Nat) = Value.slice none (0 : Nat) (0 : Nat) ∧
                                                          x.snd.fst = x.snd.fst ∧
                                                            I (IntKind.wrap IntKind.i64 (y.fst - (7 : Int)), ())
                                                                (z.fst ++
                                                                    [IntKind.wrap IntKind.u8
                                                                        (↑(BitVec.toNat
                                                                              (BitVec.ofInt (8 : Nat) (IntKind.wrap IntKind.u8 (Int.fdiv x.snd.fst ((2 : Int) ^ min (Int.toNat y.fst) (64 : Nat)))) |||
                                                                                BitVec.ofInt (8 : Nat) (128 : Int))) :
                                                                          Int)],
                                                                  ()) ∧
                                                              μ (IntKind.wrap IntKind.i64 (y.fst - (7 : Int)), ())
                                                                  (z.fst ++
                                                                      [IntKind.wrap IntKind.u8
                                                                          (↑(BitVec.toNat
                                                                                (BitVec.ofInt (8 : Nat) (IntKind.wrap IntKind.u8 (Int.fdiv x.snd.fst ((2 : Int) ^ min (Int.toNat y.fst) (64 : Nat)))) |||
                                                                                  BitVec.ofInt (8 : Nat) (128 : Int))) :
                                                                            Int)],
                                                                    ()) <
                                                                μ y z) ∧
                                            (decide ((0 : Int) < y.fst) = false →
                                              (0 : Nat) < (1 : Nat) ∧
                                                (List.length z.fst +
                                                        List.length
                                                          [IntKind.wrap IntKind.u8
                                                              (↑(BitVec.toNat (BitVec.ofInt (8 : Nat) (IntKind.wrap IntKind.u8 x.snd.fst) &&& BitVec.ofInt (8 : Nat) (127 : Int))) : Int)]) *
                                                      (1 : Nat) ≤
                                                    (140737488355328 : Nat) ∧
                                                  List.length z.fst +
                                                        List.length
                                                          [IntKind.wrap IntKind.u8
                                                              (↑(BitVec.toNat (BitVec.ofInt (8 : Nat) (IntKind.wrap IntKind.u8 x.snd.fst) &&& BitVec.ofInt (8 : Nat) (127 : Int))) : Int)] ≤
                                                      (9223372036854775807 : Nat) ∧
                                                    z.fst ++
                                                        [IntKind.wrap IntKind.u8
                                                            (↑(BitVec.toNat (BitVec.ofInt (8 : Nat) (IntKind.wrap IntKind.u8 x.snd.fst) &&& BitVec.ofInt (8 : Nat) (127 : Int))) : Int)] =
                                                      x.fst ++ numO x.snd.fst))
theorem e21 : t21 = Con.vc c_oid_number GL (mkEnv ty [] [] [] [0, 1, 4, 5, 9, 13]) {} Tryd.f21.ntmps Tryd.f21.results.toList (bodyOf Tryd.f21) := by kernel_rfl
theorem k21 : t21 := by
  unfold t21
  rintro ⟨b, n, _⟩ hx hp
  obtain ⟨p0, p1, p2⟩ := hp
  simp only at p0 p1 p2
  have p0 : b.length ≤ 1000 := p0
  have h4 := small4 p2
  try dsimp +instances only [dft_int, dft_sl, dft_str]
  simp only [true_and, and_true, eq_self_iff_true, implies_true, reduceCtorEq, false_implies, true_implies, decide_eq_true_eq, decide_eq_false_iff_not, beq_self_eq_true, Bool.not_eq_true', ne_eq, Decidable.not_not, List.nil_append, List.length_singleton, List.length_cons, List.length_nil, Nat.zero_add, Nat.add_zero, Nat.mul_one, and_self, beq_iff_eq, Bool.not_true, Bool.not_false, Bool.not_eq_false', Bool.cond_false_right, Bool.and_eq_true, imp_self, Bool.not_eq_true, Bool.cond_true_left, Bool.or_eq_true]
  refine ⟨fun y _ => ∃ k : Nat, k ≤ 4 ∧ y.1 = 7 * (k : Int) ∧ (0 < k → 0 < n / 128 ^ k), fun y _ => (28 - y.1).toNat, ⟨0, by omega, rfl, fun h => absurd h (by omega)⟩, ?_⟩
  rintro ⟨y, _⟩ _ _ ⟨k, k4, rfl, hk⟩
  simp only
  rw [shift_div n k p1 k4]
  refine ⟨by omega, fun hlt => ?_, fun hge => ?_⟩
  · have : k < 4 := by
      rcases Nat.lt_or_ge k 4 with h | h
      · exact h
      · rw [show k = 4 by omega] at hlt; omega
    rw [show IntKind.wrap .i64 (7 * (k : Int) + 7) = 7 * ((k + 1 : Nat) : Int) by rw [wrapK _ (by omega) (by omega)]; omega]
    refine ⟨⟨k + 1, by omega, rfl, fun _ => ?_⟩, by omega⟩
    rw [pow_div n k k4]
    omega
  · have hN : hiN n = k := hi_is p1 k4 (by omega) hk
    refine ⟨fun y z => ∃ j : Nat, j ≤ k ∧ y.1 = 7 * (j : Int) ∧ z.1 ++ hiD j n = b ++ hiD k n, fun y _ => y.1.toNat, ⟨k, Nat.le_refl k, rfl, rfl⟩, ?_⟩
    rintro ⟨y, _⟩ ⟨z, _⟩ _ _ ⟨j, jk, rfl, hz⟩
    simp only at hz ⊢
    have hl : z.length + j = b.length + k := by
      have := congrArg List.length hz
      rwa [List.length_append, List.length_append, hi_length, hi_length] at this
    refine ⟨fun hj => ?_, fun hj => ?_⟩
    · obtain ⟨i, rfl⟩ : ∃ i, j = i + 1 := ⟨j - 1, by omega⟩
      rw [shift_div n (i + 1) p1 (by omega), or128, show IntKind.wrap .i64 (7 * ((i + 1 : Nat) : Int) - 7) = 7 * (i : Int) by rw [wrapK _ (by omega) (by omega)]; omega]
      refine ⟨by omega, by decide, by omega, by omega, ⟨i, by omega, rfl, ?_⟩, by omega⟩
      rw [List.append_assoc]
      exact hz
    · have : j = 0 := by omega
      subst this
      rw [and127]
      refine ⟨by decide, by omega, by omega, ?_⟩
      rw [numO, hN, ← List.append_assoc, ← hz]
      simp [hiD]
theorem h21 : c_oid_number.ok Tryd.prog GL 21 := con_ok (H := {}) (mkEnv_ok (gl := GL) (l := []) (q := []) (d := []) _ tyOk (by kernel_rfl) trivial trivial trivial) (by kernel_rfl) (by kernel_rfl) (Eq.mp e21 k21)

def t22 : Prop :=
  ∀ (x : Int × Unit),
    Kd.wf (Kd.int IntKind.i64) x.fst ∧ True →
      (0 : Int) ≤ x.fst ∧ x.fst ≤ (2147483647 : Int) →
        (128 : Int) ≠ (0 : Int) ∧
          (128 : Int) ≠ (0 : Int) ∧
            ∃ (I : Int × Unit → List Int × Unit → Prop),
              ∃ (μ : Int × Unit → List Int × Unit → Nat),
                (Value.slice none (0 : Nat) (0 : Nat) = Value.slice none (0 : Nat) (0 : Nat) ∧
                    I (IntKind.wrap IntKind.i64 (Int.tdiv x.fst (128 : Int)), ()) ([IntKind.wrap IntKind.u8 (Int.tmod x.fst (128 : Int))], ())) ∧
                  ∀ (y : Int × Unit) (z : List Int × Unit),
                    Kd.wf (Kd.int IntKind.i64) y.fst ∧ True →
                      Kd.wf (Kd.sl (Kd.int IntKind.u8)) z.fst ∧ True →
                        I y z →
                          (decide ((0 : Int) < y.fst) = true →
                              (128 : Int) ≠ (0 : Int) ∧
                                (0 : Nat) < (1 : Nat) ∧
                                  (List.length [IntKind.wrap IntKind.u8 (IntKind.wrap IntKind.i64 ((128 : Int) + Int.tmod y.fst (128 : Int)))] + List.length z.fst) * (1 : Nat) ≤
                                      (140737488355328 : Nat) ∧
                                    List.length [IntKind.wrap IntKind.u8 (IntKind.wrap IntKind.i64 ((128 : Int) + Int.tmod y.fst (128 : Int)))] + List.length z.fst ≤ (9223372036854775807 : Nat) ∧
                                      (128 : Int) ≠ (0 : Int) ∧
                                        Value.slice none (0 : Nat) (0 : Nat) = Value.slice none (0 : Nat) (0 : Nat) ∧
                                          I (IntKind.wrap IntKind.i64 (Int.tdiv y.fst (128 : Int)), ())
                                              ([IntKind.wrap IntKind.u8 (IntKind.wrap IntKind.i64 ((128 : Int) + Int.tmod y.fst (128 : Int)))] ++ z.fst, ()) ∧
                                            μ (IntKind.wrap IntKind.i64 (Int.tdiv y.fst (128 : Int)), ())
                                                ([IntKind.wrap IntKind.u8 (IntKind.wrap IntKind.i64 ((128 : Int) + Int.tmod y.fst (128 : Int)))] ++ z.fst, ()) <
                                              μ y z) ∧
                            (decide ((0 : Int) < y.fst) = false → z.fst = numO x.fst)
theorem e22 : t22 = Con.vc c_r03_Number GL (mkEnv ty [] [] [] [0, 2, 3, 11]) {} Tryd.f22.ntmps Tryd.f22.results.toList (bodyOf Tryd.f22) := by kernel_rfl
theorem k22 : t22 := by
  unfold t22
  rintro ⟨n, _⟩ hx hp
  obtain ⟨p1, p2⟩ := hp
  simp only at p1 p2
  have h4 := small4 p2
  try dsimp +instances only [dft_int, dft_sl, dft_str]
  simp only [true_and, and_true, eq_self_iff_true, implies_true, reduceCtorEq, false_implies, true_implies, decide_eq_true_eq, decide_eq_false_iff_not, beq_self_eq_true, Bool.not_eq_true', ne_eq, Decidable.not_not, List.nil_append, List.length_singleton, List.length_cons, List.length_nil, Nat.zero_add, Nat.add_zero, Nat.mul_one, and_self, beq_iff_eq, Bool.not_true, Bool.not_false, Bool.not_eq_false', Bool.cond_false_right, Bool.and_eq_true, imp_self, Bool.not_eq_true, Bool.cond_true_left, Bool.or_eq_true]
  have hd : ∀ m : Int, 0 ≤ m → m ≤ 2147483647 → IntKind.wrap .i64 (m.tdiv 128) = m / 128 := fun m h0 h1 => by
    rw [Int.tdiv_eq_ediv_of_nonneg h0, wrapK _ (by omega) (by omega)]
  have hm : ∀ m : Int, 0 ≤ m → m.tmod 128 = m % 128 := fun m h0 => Int.tmod_eq_emod_of_nonneg h0
  rw [hd n p1 p2, hm n p1]
  refine ⟨by decide, by decide, fun y z => ∃ j : Nat, j ≤ 4 ∧ y.1 = n / 128 ^ (j + 1) ∧ z.1 = hiD j n ++ [n % 128] ∧ (0 < j → 0 < n / 128 ^ j), fun y _ => y.1.toNat, ⟨0, by omega, by simp, by simp only [hiD, List.nil_append]; rw [wrap_u8]; congr 1; omega, fun h => absurd h (by omega)⟩, ?_⟩
  rintro ⟨y, _⟩ ⟨z, _⟩ _ _ ⟨j, j4, ey, ez, hj⟩
  simp only at ey ez ⊢
  subst ez
  have e1 := pow_div n j j4
  have hb : 0 ≤ y ∧ y ≤ 2147483647 := by
    have : j = 0 ∨ j = 1 ∨ j = 2 ∨ j = 3 ∨ j = 4 := by omega
    rcases this with rfl | rfl | rfl | rfl | rfl <;> simp only [Nat.reduceAdd, Int.reducePow] at ey <;> omega
  refine ⟨fun hlt => ?_, fun hge => ?_⟩
  · have : j < 4 := by
      rcases Nat.lt_or_ge j 4 with h | h
      · exact h
      · rw [show j = 4 by omega] at e1 ey; omega
    rw [hd y hb.1 hb.2, hm y hb.1, wrapK (128 + y % 128) (by omega) (by omega)]
    have hl : (hiD j n ++ [n % 128]).length ≤ 5 := by rw [List.length_append, hi_length]; simp; omega
    refine ⟨by decide, by decide, by omega, by omega, by decide, ⟨j + 1, by omega, ?_, ?_, fun _ => by rw [← ey]; exact hlt⟩, by omega⟩
    · rw [pow_div n (j + 1) (by omega), ← ey]
    · rw [hiD, ← ey, wrap_u8]
      simp only [List.cons_append, List.nil_append]
      congr 1
      omega
  · have hN : hiN n = j := hi_is p1 j4 (by omega) hj
    rw [numO, hN]
theorem h22 : c_r03_Number.ok Tryd.prog GL 22 := con_ok (H := {}) (mkEnv_ok (gl := GL) (l := []) (q := []) (d := []) _ tyOk (by kernel_rfl) trivial trivial trivial) (by kernel_rfl) (by kernel_rfl) (Eq.mp e22 k22)

def t8 : Prop :=
  ∀ (x : List Int × Unit),
    Kd.wf (Kd.sl (Kd.int IntKind.i64)) x.fst ∧ True →
      True →
        True ∧
          (∀ (y : Bool × Unit),
              Kd.wf Kd.bool y.fst ∧ True →
                y.fst = mayO x.fst →
                  ((!y.fst) = true → ([], (2 : Int)) = EncO x.fst) ∧
                    ((!y.fst) = false →
                      ((0 : Int) ≤ (0 : Int) ∧ (0 : Int) < (↑(List.length x.fst) : Int)) ∧
                        ((0 : Int) ≤ (1 : Int) ∧ (1 : Int) < (↑(List.length x.fst) : Int)) ∧
                          (lenI [] ≤ (1000 : Nat) ∧
                              (0 : Int) ≤
                                  IntKind.wrap IntKind.i64
                                    (IntKind.wrap IntKind.i64 ((40 : Int) * List.getD x.fst (0 : Nat) (Kd.dft (Kd.int IntKind.i64))) + List.getD x.fst (1 : Nat) (Kd.dft (Kd.int IntKind.i64))) ∧
                                IntKind.wrap IntKind.i64
                                    (IntKind.wrap IntKind.i64 ((40 : Int) * List.getD x.fst (0 : Nat) (Kd.dft (Kd.int IntKind.i64))) + List.getD x.fst (1 : Nat) (Kd.dft (Kd.int IntKind.i64))) ≤
                                  (2147483647 : Int)) ∧
                            (∀ (y : List Int × Unit),
                                Kd.wf (Kd.sl (Kd.int IntKind.u8)) y.fst ∧ True →
                                  y.fst =
                                      [] ++
                                        numO
                                          (IntKind.wrap IntKind.i64
                                            (IntKind.wrap IntKind.i64 ((40 : Int) * List.getD x.fst (0 : Nat) (Kd.dft (Kd.int IntKind.i64))) + List.getD x.fst (1 : Nat) (Kd.dft (Kd.int IntKind.i64)))) →
                                    ((0 : Int) ≤ (2 : Int) ∧ (2 : Int) ≤ (↑(List.length x.fst) : Int)) ∧
                                      ∃ (I : Int × Unit → List Int × Unit → Prop),
                                        ∃ (μ : Int × Unit → List Int × Unit → Nat),
                                          ((↑(List.length (List.drop (2 : Nat) x.fst)) : Int) = (↑(List.length (List.drop (2 : Nat) x.fst)) : Int) ∧
                                              List.drop (2 : Nat) x.fst = List.drop (2 : Nat) x.fst ∧
                                                Value.bool false = Value.bool false ∧
                                                  (0 : Int) = (0 : Int) ∧ Value.slice none (0 : Nat) (0 : Nat) = Value.slice none (0 : Nat) (0 : Nat) ∧ x.fst = x.fst ∧ I ((0 : Int), ()) (y.fst, ())) ∧
                                            ∀ (y : Int × Unit) (z : List Int × Unit),
                                              Kd.wf (Kd.int IntKind.i64) y.fst ∧ True →
                                                Kd.wf (Kd.sl (Kd.int IntKind.u8)) z.fst ∧ True →
                                                  I y z →
                                                    (decide (y.fst < (↑(List.length (List.drop (2 : Nat) x.fst)) : Int)) = true →
                                                        ((0 : Int) ≤ y.fst ∧ y.fst < (↑(List.length (List.drop (2 : Nat) x.fst)) : Int)) ∧
                                                          (lenI z.fst ≤ (1000 : Nat) ∧
                                                              (0 : Int) ≤ List.getD (List.drop (2 : Nat) x.fst) (Int.toNat y.fst) (Kd.dft (Kd.int IntKind.i64)) ∧
                                                                List.getD (List.drop (2 : Nat) x.fst) (Int.toNat y.fst) (Kd.dft (Kd.int IntKind.i64)) ≤ (2147483647 : Int)) ∧
                                                            (∀ (y_1 : List Int × Unit),
                                                                Kd.wf (Kd.sl (Kd.int IntKind.u8)) y_1.fst ∧ True →
                                                                  y_1.fst = z.fst ++ numO (List.getD (List.drop (2 : Nat) x.fst) (Int.toNat y.fst) (Kd.dft (Kd.int IntKind.i64))) →
                                                                    (↑(List.length (List.drop (2 : Nat) x.fst)) : Int) = (↑(List.length (List.drop (2 : Nat) x.fst)) : Int) ∧
                                                                      List.drop (2 : Nat) x.fst = List.drop (2 : Nat) x.fst ∧
                                                                        Value.bool false = Value.bool false ∧
                                                                          (0 : Int) = (0 : Int) ∧
                                                                            Value.slice none (0 : Nat) (0 : Nat) = Value.slice none (0 : Nat) (0 : Nat) ∧
                                                                              x.fst = x.fst ∧
                                                                                I (IntKind.wrap IntKind.i64 (y.fst + (1 : Int)), ()) (y_1.fst, ()) ∧
                                                                                  μ (IntKind.wrap IntKind.i64 (y.fst + (1 : Int)), ()) (y_1.fst, ()) < μ y z) ∧
                                                              True) ∧
                                                      (decide (y.fst < (↑(List.length (List.drop (2 : Nat) x.fst)) : Int)) = false → (z.fst, (0 : Int)) = EncO x.fst)) ∧
                              True)) ∧
            True
theorem e8 : t8 = Con.vc c_oid_Encode GL (mkEnv ty [(12, conSem c_oid_May), (21, conSem c_oid_number)] [] [] [0, 2, 3, 4, 6, 9, 20, 21, 22, 23]) {} Tryd.f8.ntmps Tryd.f8.results.toList (bodyOf Tryd.f8) := by kernel_rfl
theorem k8 : t8 := by
  unfold t8
  rintro ⟨l, _⟩ hx hp
  try dsimp +instances only [dft_int, dft_sl, dft_str]
  simp only [true_and, and_true, eq_self_iff_true, implies_true, reduceCtorEq, false_implies, true_implies, decide_eq_true_eq, decide_eq_false_iff_not, beq_self_eq_true, Bool.not_eq_true', ne_eq, Decidable.not_not, List.nil_append, List.length_singleton, List.length_cons, List.length_nil, Nat.zero_add, Nat.add_zero, Nat.mul_one, and_self, beq_iff_eq, Bool.not_true, Bool.not_false, Bool.not_eq_false', Bool.cond_false_right, Bool.and_eq_true, imp_self, Bool.not_eq_true, Bool.cond_true_left, Bool.or_eq_true]
  simp only [all_bool]
  refine ⟨fun h => by rw [EncO, h]; rfl, fun h => ?_⟩
  obtain ⟨h1, h2, h3, h4, h5⟩ := may_args h
  have hg : ∀ i, i < l.length → 0 ≤ l.getD i 0 ∧ l.getD i 0 ≤ 2147483647 := fun i hi => h3 _ (by
    rw [List.getD_eq_getElem?_getD, List.getElem?_eq_getElem hi]
    exact List.getElem_mem _)
  have g0 := hg 0 (by omega)
  have g1 := hg 1 (by omega)
  rw [wrapK (40 * l.getD 0 0) (by omega) (by omega), wrapK (40 * l.getD 0 0 + l.getD 1 0) (by omega) (by omega)]
  refine ⟨⟨by omega, by omega⟩, ⟨by omega, by omega⟩, ⟨by decide, h4, h5⟩, ?_⟩
  rintro ⟨a, _⟩ _ ea
  simp only at ea ⊢
  have hdl : (List.drop 2 l).length = l.length - 2 := List.length_drop
  have hdg : ∀ i : Nat, (List.drop 2 l).getD i 0 = l.getD (i + 2) 0 := fun i => by
    rw [List.getD_eq_getElem?_getD, List.getElem?_drop, ← List.getD_eq_getElem?_getD, Nat.add_comm]
  rw [hdl]
  refine ⟨⟨by omega, by omega⟩, fun y z => 0 ≤ y.1 ∧ y.1 ≤ (l.length : Int) - 2 ∧ z.1 = encP l (y.1.toNat + 2), fun y _ => ((l.length : Int) - y.1).toNat, ⟨Int.le_refl 0, by simp only; omega, by rw [ea]; exact (encP_two l).symm⟩, ?_⟩
  rintro ⟨i, _⟩ ⟨z, _⟩ _ _ ⟨i0, i1, ez⟩
  simp only at i0 i1 ez ⊢
  have hw1 : IntKind.wrap .i64 (i + 1) = i + 1 := wrapK _ (by omega) (by omega)
  rw [hw1, hdg]
  refine ⟨fun hlt => ⟨⟨by omega, hlt⟩, ⟨?_, hg (i.toNat + 2) (by omega)⟩, ?_⟩, fun hge => ?_⟩
  · have l1 := encP_len l (i.toNat + 2)
    rw [← ez] at l1
    show z.length ≤ 1000
    omega
  · rintro ⟨c, _⟩ _ ec
    simp only at ec ⊢
    refine ⟨⟨by omega, by omega, ?_⟩, by omega⟩
    rw [show (i + 1).toNat + 2 = i.toNat + 2 + 1 by omega, encP_step (by omega) (by omega), ec, ez]
  · rw [EncO, h, if_pos rfl, ez, encP_all (by omega)]
theorem h8 : c_oid_Encode.ok Tryd.prog GL 8 := con_ok (H := {}) (mkEnv_ok (gl := GL) (l := [(12, conSem c_oid_May), (21, conSem c_oid_number)]) (q := []) (d := []) _ tyOk (by kernel_rfl) ⟨h12.call, h21.call, trivial⟩ trivial trivial) (by kernel_rfl) (by kernel_rfl) (Eq.mp e8 k8)

def t9 : Prop :=
  ∀ (x : List Int × Unit),
    Kd.wf (Kd.sl (Kd.int IntKind.i64)) x.fst ∧ True →
      True →
        True ∧
          (∀ (y : Bool × Unit),
              Kd.wf Kd.bool y.fst ∧ True →
                y.fst = mayO x.fst →
                  ((!y.fst) = true → ([], (2 : Int)) = EncO x.fst) ∧
                    ((!y.fst) = false →
                      ((0 : Int) ≤ (0 : Int) ∧ (0 : Int) < (↑(List.length x.fst) : Int)) ∧
                        ((0 : Int) ≤ (1 : Int) ∧ (1 : Int) < (↑(List.length x.fst) : Int)) ∧
                          ((0 : Int) ≤
                                IntKind.wrap IntKind.i64
                                  (IntKind.wrap IntKind.i64 ((40 : Int) * List.getD x.fst (0 : Nat) (Kd.dft (Kd.int IntKind.i64))) + List.getD x.fst (1 : Nat) (Kd.dft (Kd.int IntKind.i64))) ∧
                              IntKind.wrap IntKind.i64
                                  (IntKind.wrap IntKind.i64 ((40 : Int) * List.getD x.fst (0 : Nat) (Kd.dft (Kd.int IntKind.i64))) + List.getD x.fst (1 : Nat) (Kd.dft (Kd.int IntKind.i64))) ≤
                                (2147483647 : Int)) ∧
                            (∀ (y : List Int × Unit),
                                Kd.wf (Kd.sl (Kd.int IntKind.u8)) y.fst ∧ True →
                                  y.fst =
                                      numO
                                        (IntKind.wrap IntKind.i64
                                          (IntKind.wrap IntKind.i64 ((40 : Int) * List.getD x.fst (0 : Nat) (Kd.dft (Kd.int IntKind.i64))) + List.getD x.fst (1 : Nat) (Kd.dft (Kd.int IntKind.i64)))) →
                                    ∃ (I : Int × Unit → List Int × Unit → Prop),
                                      ∃ (μ : Int × Unit → List Int × Unit → Nat),
                                        (Value.bool false = Value.bool false ∧
                                            (0 : Int) = (0 : Int) ∧ Value.slice none (0 : Nat) (0 : Nat) = Value.slice none (0 : Nat) (0 : Nat) ∧ x.fst = x.fst ∧ I ((2 : Int), ()) (y.fst, ())) ∧
                                          ∀ (y : Int × Unit) (z : List Int × Unit),
                                            Kd.wf (Kd.int IntKind.i64) y.fst ∧ True →
                                              Kd.wf (Kd.sl (Kd.int IntKind.u8)) z.fst ∧ True →
                                                I y z →
                                                  (decide (y.fst < (↑(List.length x.fst) : Int)) = true →
                                                      ((0 : Int) ≤ y.fst ∧ y.fst < (↑(List.length x.fst) : Int)) ∧
                                                        ((0 : Int) ≤ List.getD x.fst (Int.toNat y.fst) (Kd.dft (Kd.int IntKind.i64)) ∧
                                                            List.getD x.fst (Int.toNat y.fst) (Kd.dft (Kd.int IntKind.i64)) ≤ (2147483647 : Int)) ∧
                                                          (∀ (y_1 : List Int × Unit),
                                                              Kd.wf (Kd.sl (Kd.int IntKind.u8)) y_1.fst ∧ True →
                                                                y_1.fst = numO (List.getD x.fst (Int.toNat y.fst) (Kd.dft (Kd.int IntKind.i64))) →
                                                                  (0 : Nat) < (1 : Nat) ∧
                                                                    (List.length z.fst + List.length y_1.fst) * (1 : Nat) ≤ (140737488355328 : Nat) ∧
                                                                      List.length z.fst + List.length y_1.fst ≤ (9223372036854775807 : Nat) ∧
                                                                        Value.bool false = Value.bool false ∧
                                                                          (0 : Int) = (0 : Int) ∧
                                                                            Value.slice none (0 : Nat) (0 : Nat) = Value.slice none (0 : Nat) (0 : Nat) ∧
                                                                              x.fst = x.fst ∧
                                                                                I (IntKind.wrap IntKind.i64 (y.fst + (1 : Int)), ()) (z.fst ++ y_1.fst, ()) ∧
                                                                                  μ (IntKind.wrap IntKind.i64 (y.fst + (1 : Int)), ()) (z.fst ++ y_1.fst, ()) < μ y z) ∧
                                                            True) ∧
                                                    (decide (y.fst < (↑(List.length x.fst) : Int)) = false → (z.fst, (0 : Int)) = EncO x.fst)) ∧
                              True)) ∧
            True
theorem e9 : t9 = Con.vc c_r03_Encode GL (mkEnv ty [(13, conSem c_r03_May), (22, conSem c_r03_Number)] [] [] [0, 2, 3, 4, 5, 8, 21]) {} Tryd.f9.ntmps Tryd.f9.results.toList (bodyOf Tryd.f9) := by kernel_rfl
theorem k9 : t9 := by
  unfold t9
  rintro ⟨l, _⟩ hx hp
  try dsimp +instances only [dft_int, dft_sl, dft_str]
  simp only [true_and, and_true, eq_self_iff_true, implies_true, reduceCtorEq, false_implies, true_implies, decide_eq_true_eq, decide_eq_false_iff_not, beq_self_eq_true, Bool.not_eq_true', ne_eq, Decidable.not_not, List.nil_append, List.length_singleton, List.length_cons, List.length_nil, Nat.zero_add, Nat.add_zero, Nat.mul_one, and_self, beq_iff_eq, Bool.not_true, Bool.not_false, Bool.not_eq_false', Bool.cond_false_right, Bool.and_eq_true, imp_self, Bool.not_eq_true, Bool.cond_true_left, Bool.or_eq_true]
  simp only [all_bool]
  refine ⟨fun h => by rw [EncO, h]; rfl, fun h => ?_⟩
  obtain ⟨h1, h2, h3, h4, h5⟩ := may_args h
  have hg : ∀ i, i < l.length → 0 ≤ l.getD i 0 ∧ l.getD i 0 ≤ 2147483647 := fun i hi => h3 _ (by
    rw [List.getD_eq_getElem?_getD, List.getElem?_eq_getElem hi]
    exact List.getElem_mem _)
  have g0 := hg 0 (by omega)
  have g1 := hg 1 (by omega)
  rw [wrapK (40 * l.getD 0 0) (by omega) (by omega), wrapK (40 * l.getD 0 0 + l.getD 1 0) (by omega) (by omega)]
  refine ⟨⟨by omega, by omega⟩, ⟨by omega, by omega⟩, ⟨h4, h5⟩, ?_⟩
  rintro ⟨a, _⟩ _ ea
  simp only at ea ⊢
  refine ⟨fun y z => 2 ≤ y.1 ∧ y.1 ≤ l.length ∧ z.1 = encP l y.1.toNat, fun y _ => ((l.length : Int) - y.1).toNat, ⟨by simp, by simp only; omega, by rw [ea]; exact (encP_two l).symm⟩, ?_⟩
  rintro ⟨i, _⟩ ⟨z, _⟩ _ _ ⟨i0, i1, ez⟩
  simp only at i0 i1 ez ⊢
  have hw1 : IntKind.wrap .i64 (i + 1) = i + 1 := wrapK _ (by omega) (by omega)
  rw [hw1]
  refine ⟨fun hlt => ⟨⟨by omega, hlt⟩, hg i.toNat (by omega), ?_⟩, fun hge => ?_⟩
  · rintro ⟨c, _⟩ _ ec
    simp only at ec ⊢
    have l1 := encP_len l i.toNat
    have l2 := num_length (l.getD i.toNat 0)
    rw [← ez] at l1
    rw [← ec] at l2
    refine ⟨by decide, by omega, by omega, ⟨by omega, by omega, ?_⟩, by omega⟩
    rw [show (i + 1).toNat = i.toNat + 1 by omega, encP_step (by omega) (by omega), ez, ec]
  · rw [EncO, h, if_pos rfl, ez, encP_all (by omega)]
theorem h9 : c_r03_Encode.ok Tryd.prog GL 9 := con_ok (H := {}) (mkEnv_ok (gl := GL) (l := [(13, conSem c_r03_May), (22, conSem c_r03_Number)]) (q := []) (d := []) _ tyOk (by kernel_rfl) ⟨h13.call, h22.call, trivial⟩ trivial trivial) (by kernel_rfl) (by kernel_rfl) (Eq.mp e9 k9)

end Go.Proofs.YtkdffofjnjamlaaDoor
end
section
/- Contracts. -/
namespace Go.Proofs.YtkdffofjnjamlaaDoor
open Go Go.Vc Go.Pl Go.Proofs
def c_strconv_Itoa : Con := { args := [I64].map .dat, res := [Kd.str].map .dat, pre := fun _ => True, post := fun x y => y.1 = itoaD x.1 }
def c_strings_Join : Con := { args := [Kd.sl .str, Kd.str].map .dat, res := [Kd.str].map .dat, pre := fun x => (x.1 : List (List Int)).length ≤ 1000000 ∧ (joinO x.1 x.2.1).length ≤ 1000000000, post := fun x y => y.1 = joinO x.1 x.2.1 }
def c_r03_Digits : Con := { args := [.dat I64], res := [.dat .str], pre := fun x => 0 ≤ x.1 ∧ x.1 ≤ 2147483647, post := fun x y => y.1 = digD x.1 }
def c_oid_Text : Con := { args := [.dat (.sl I64)], res := [.dat .str, .dat I64], pre := fun _ => True, post := fun x y => (y.1, y.2.1) = TxtO x.1 }
def c_r03_Text : Con := { args := [.dat (.sl I64)], res := [.dat .str, .dat I64], pre := fun _ => True, post := fun x y => (y.1, y.2.1) = TxtO x.1 }

end Go.Proofs.YtkdffofjnjamlaaDoor
end
section
/- Walks. -/
namespace Go.Proofs.YtkdffofjnjamlaaDoor
open Go Go.Vc Go.Pl Go.Proofs
set_option linter.unusedVariables false
set_option linter.unusedSimpArgs false
theorem h23 : c_strconv_Itoa.ok Tryd.prog GL 23 := by
  refine lib_ok (ks := [I64]) (rs := [Kd.str]) Tryd.func23 (by kernel_rfl) (by decide) ?_
  rintro w F ⟨n, u⟩ vs h hg hp
  obtain ⟨v1, r1, rfl, h1, rfl⟩ := h
  obtain ⟨rfl, hn⟩ := VRep_int.1 h1
  have hn2 : -9223372036854775808 ≤ n ∧ n ≤ 9223372036854775807 := hn
  obtain ⟨_, _, ht⟩ := hg 2 (.raw (Lib.pow10Tab.map fun z => Value.int .u64 z)) rfl
  have htab := tabIs_raw (P := Tryd.prog) (name := "internal/strconv.uint64pow10") (by kernel_rfl) ht
  refine Calls.mono (Tryd.strconv_Itoa n hn2.1 hn2.2 w htab) ?_
  rintro e w' ⟨rfl, k, os, rfl⟩
  refine ⟨kept_grow w k os, [_], (itoaD n, ()), rfl, rfl, _, [], rfl, VRep_str.2 ⟨_, rfl, itoa_bs n, ?_⟩, rfl⟩
  have := itoa_len hn2.1 hn2.2
  show (Lib.itoa n).toArray.size ≤ _
  simp only [List.size_toArray]
  omega
theorem h24 : c_strings_Join.ok Tryd.prog GL 24 := by
  refine lib_ok (ks := [Kd.sl .str, Kd.str]) (rs := [Kd.str]) Tryd.func24 (by kernel_rfl) (by decide) ?_
  rintro w F ⟨l, m, u⟩ vs h hg hp
  obtain ⟨v1, r1, rfl, h1, v2, r2, rfl, h2, rfl⟩ := h
  obtain ⟨A, c, rfl, hc1, hc2, hA⟩ := VRep_sl.1 h1
  obtain ⟨t, rfl, rfl, ht⟩ := VRep_str.1 h2
  obtain ⟨p1, p2⟩ := hp
  simp only at p1 p2 hA hc1
  by_cases hl : l = []
  · subst hl
    refine Calls.mono (Tryd.strings_Join_none A c t w) ?_
    rintro e w' ⟨rfl, rfl⟩
    exact ⟨Kept.refl _ _, [_], ([], ()), rfl, rfl, _, [], rfl, VRep_str.2 ⟨⟨#[]⟩, rfl, rfl, by decide⟩, rfl⟩
  · obtain ⟨ad, rfl, hb, _, hE⟩ := hA hl
    obtain ⟨hs, xs, rfl, hx⟩ := texts_of hE
    obtain ⟨bk, o, sp⟩ := ad
    have hs : sp = none := hs hl
    subst hs
    have hlen : xs.length = (xs.map bs).length := (List.length_map ..).symm
    have hj := congrArg List.length (join_bs xs t)
    rw [bs_u8s, List.length_map] at hj
    have hc : ∀ (j : Nat) (x : ByteArray), xs[j]? = some x → w.cell? ⟨bk, o + j, none⟩ = some (.string x) := fun j x hx2 => by
      have := hx j x hx2
      rwa [addr_add] at this
    have hJ := Tryd.strings_Join bk o c xs t w hc hb (by omega) (by omega) (by omega)
    rw [hlen] at hJ
    refine Calls.mono hJ ?_
    rintro e w' ⟨rfl, hbl⟩
    refine ⟨below_kept hbl, [_], (joinO (xs.map bs) (bs t), ()), rfl, rfl, _, [], rfl, VRep_str.2 ⟨_, rfl, join_bs xs t, ?_⟩, rfl⟩
    show (Lib.join (xs.map (·.data.toList)) t.data.toList).toArray.size ≤ _
    simp only [List.size_toArray]
    omega
def t25 : Prop :=
  ∀ (x : Int × Unit),
    Kd.wf (Kd.int IntKind.i64) x.fst ∧ True →
      (0 : Int) ≤ x.fst ∧ x.fst ≤ (2147483647 : Int) →
        ∃ (I : List Int × Int × Unit → Unit → Prop),
          ∃ (μ : List Int × Int × Unit → Unit → Nat),
            (bs { data := #[] } = bs { data := #[] } ∧ I (bs { data := #[] }, x.fst, ()) ()) ∧
              ∀ (y : List Int × Int × Unit) (z : Unit),
                Kd.wf Kd.str y.fst ∧ Kd.wf (Kd.int IntKind.i64) y.snd.fst ∧ True →
                  True →
                    I y z →
                      (decide ((9 : Int) < y.snd.fst) = true →
                          (10 : Int) ≠ (0 : Int) ∧
                            List.length [IntKind.wrap IntKind.u8 (IntKind.wrap IntKind.i64 ((48 : Int) + Int.tmod y.snd.fst (10 : Int)))] + List.length y.fst ≤ (9223372036854775807 : Nat) ∧
                              (10 : Int) ≠ (0 : Int) ∧
                                bs { data := #[] } = bs { data := #[] } ∧
                                  I
                                      ([IntKind.wrap IntKind.u8 (IntKind.wrap IntKind.i64 ((48 : Int) + Int.tmod y.snd.fst (10 : Int)))] ++ y.fst,
                                        IntKind.wrap IntKind.i64 (Int.tdiv y.snd.fst (10 : Int)), ())
                                      () ∧
                                    μ
                                        ([IntKind.wrap IntKind.u8 (IntKind.wrap IntKind.i64 ((48 : Int) + Int.tmod y.snd.fst (10 : Int)))] ++ y.fst,
                                          IntKind.wrap IntKind.i64 (Int.tdiv y.snd.fst (10 : Int)), ())
                                        () <
                                      μ y z) ∧
                        (decide ((9 : Int) < y.snd.fst) = false →
                          List.length [IntKind.wrap IntKind.u8 (IntKind.wrap IntKind.i64 ((48 : Int) + y.snd.fst))] + List.length y.fst ≤ (9223372036854775807 : Nat) ∧
                            [IntKind.wrap IntKind.u8 (IntKind.wrap IntKind.i64 ((48 : Int) + y.snd.fst))] ++ y.fst = digD x.fst)
theorem e25 : t25 = Con.vc c_r03_Digits GL (mkEnv ty [] [] [] [0, 2, 3, 5]) {} Tryd.f25.ntmps Tryd.f25.results.toList (bodyOf Tryd.f25) := by kernel_rfl
theorem k25 : t25 := by
  unfold t25
  rintro ⟨n, _⟩ hx hp
  obtain ⟨p1, p2⟩ := hp
  simp only at p1 p2
  try dsimp +instances only [dft_int, dft_sl, dft_str]
  simp only [true_and, and_true, eq_self_iff_true, implies_true, reduceCtorEq, false_implies, true_implies, decide_eq_true_eq, decide_eq_false_iff_not, beq_self_eq_true, Bool.not_eq_true', ne_eq, Decidable.not_not, List.nil_append, List.length_singleton, List.length_cons, List.length_nil, Nat.zero_add, Nat.add_zero, Nat.mul_one, and_self, beq_iff_eq, Bool.not_true, Bool.not_false, Bool.not_eq_false', Bool.cond_false_right, Bool.and_eq_true, imp_self, Bool.not_eq_true, Bool.cond_true_left, Bool.or_eq_true]
  rw [bs_nil]
  have hl := dig_len p2
  have hm : ∀ m : Int, 0 ≤ m → m ≤ 2147483647 → IntKind.wrap .u8 (IntKind.wrap .i64 (48 + m.tmod 10)) = 48 + m % 10 ∧ IntKind.wrap .i64 (m.tdiv 10) = m / 10 := fun m h0 h1 => by
    rw [Int.tmod_eq_emod_of_nonneg h0, Int.tdiv_eq_ediv_of_nonneg h0, wrapK (48 + m % 10) (by omega) (by omega), wrapK (m / 10) (by omega) (by omega), wrap_u8]
    exact ⟨by omega, rfl⟩
  refine ⟨fun y _ => 0 ≤ y.2.1 ∧ y.2.1 ≤ 2147483647 ∧ digD n = digD y.2.1 ++ y.1, fun y _ => y.2.1.toNat, ⟨p1, p2, by simp⟩, ?_⟩
  rintro ⟨s, m, _⟩ _ _ ⟨m0, m1, e⟩
  simp only at m0 m1 e ⊢
  obtain ⟨k1, k2⟩ := hm m m0 m1
  have hs : s.length ≤ 10 := by
    have := congrArg List.length e
    rw [List.length_append] at this
    omega
  rw [k1, k2]
  refine ⟨fun h => ⟨by decide, by omega, by decide, ⟨by omega, by omega, ?_⟩, by omega⟩, fun h => ⟨by omega, ?_⟩⟩
  · rw [e, dig_big h, List.append_assoc]
  · rw [e, dig_small m0 (by omega), wrapK (48 + m) (by omega) (by omega), wrap_u8]
    simp only [List.singleton_append]
    congr 1
    omega
theorem h25 : c_r03_Digits.ok Tryd.prog GL 25 := con_ok (H := {}) (mkEnv_ok (gl := GL) (l := []) (q := []) (d := []) _ tyOk (by kernel_rfl) trivial trivial trivial) (by kernel_rfl) (by kernel_rfl) (Eq.mp e25 k25)

def t10 : Prop :=
  ∀ (x : List Int × Unit),
    Kd.wf (Kd.sl (Kd.int IntKind.i64)) x.fst ∧ True →
      True →
        True ∧
          (∀ (y : Bool × Unit),
              Kd.wf Kd.bool y.fst ∧ True →
                y.fst = mayO x.fst →
                  ((!y.fst) = true → (bs { data := #[] }, (2 : Int)) = TxtO x.fst) ∧
                    ((!y.fst) = false →
                      ∃ (I : Int × Unit → List (List Int) × Unit → Prop),
                        ∃ (μ : Int × Unit → List (List Int) × Unit → Nat),
                          ((↑(List.length x.fst) : Int) = (↑(List.length x.fst) : Int) ∧
                              x.fst = x.fst ∧ Value.bool false = Value.bool false ∧ (0 : Int) = (0 : Int) ∧ bs { data := #[] } = bs { data := #[] } ∧ x.fst = x.fst ∧ I ((0 : Int), ()) ([], ())) ∧
                            ∀ (y : Int × Unit) (z : List (List Int) × Unit),
                              Kd.wf (Kd.int IntKind.i64) y.fst ∧ True →
                                Kd.wf (Kd.sl Kd.str) z.fst ∧ True →
                                  I y z →
                                    (decide (y.fst < (↑(List.length x.fst) : Int)) = true →
                                        ((0 : Int) ≤ y.fst ∧ y.fst < (↑(List.length x.fst) : Int)) ∧
                                          True ∧
                                            (∀ (y_1 : List Int × Unit),
                                                Kd.wf Kd.str y_1.fst ∧ True →
                                                  y_1.fst = itoaD (List.getD x.fst (Int.toNat y.fst) (Kd.dft (Kd.int IntKind.i64))) →
                                                    (0 : Nat) < (1 : Nat) ∧
                                                      (List.length z.fst + List.length [y_1.fst]) * (16 : Nat) ≤ (140737488355328 : Nat) ∧
                                                        List.length z.fst + List.length [y_1.fst] ≤ (9223372036854775807 : Nat) ∧
                                                          (↑(List.length x.fst) : Int) = (↑(List.length x.fst) : Int) ∧
                                                            x.fst = x.fst ∧
                                                              Value.bool false = Value.bool false ∧
                                                                (0 : Int) = (0 : Int) ∧
                                                                  bs { data := #[] } = bs { data := #[] } ∧
                                                                    x.fst = x.fst ∧
                                                                      I (IntKind.wrap IntKind.i64 (y.fst + (1 : Int)), ()) (z.fst ++ [y_1.fst], ()) ∧
                                                                        μ (IntKind.wrap IntKind.i64 (y.fst + (1 : Int)), ()) (z.fst ++ [y_1.fst], ()) < μ y z) ∧
                                              True) ∧
                                      (decide (y.fst < (↑(List.length x.fst) : Int)) = false →
                                        (List.length z.fst ≤ (1000000 : Nat) ∧ List.length (joinO z.fst (bs { data := #[(46 : UInt8)] })) ≤ (1000000000 : Nat)) ∧
                                          (∀ (y : List Int × Unit), Kd.wf Kd.str y.fst ∧ True → y.fst = joinO z.fst (bs { data := #[(46 : UInt8)] }) → (y.fst, (0 : Int)) = TxtO x.fst) ∧ True))) ∧
            True
theorem e10 : t10 = Con.vc c_oid_Text GL (mkEnv ty [(12, conSem c_oid_May), (23, conSem c_strconv_Itoa), (24, conSem c_strings_Join)] [] [] [0, 2, 3, 4, 6, 9, 10, 11, 12, 13]) {} Tryd.f10.ntmps Tryd.f10.results.toList (bodyOf Tryd.f10) := by kernel_rfl
theorem k10 : t10 := by
  unfold t10
  rintro ⟨l, _⟩ hx hp
  try dsimp +instances only [dft_int, dft_sl, dft_str]
  simp only [true_and, and_true, eq_self_iff_true, implies_true, reduceCtorEq, false_implies, true_implies, decide_eq_true_eq, decide_eq_false_iff_not, beq_self_eq_true, Bool.not_eq_true', ne_eq, Decidable.not_not, List.nil_append, List.length_singleton, List.length_cons, List.length_nil, Nat.zero_add, Nat.add_zero, Nat.mul_one, and_self, beq_iff_eq, Bool.not_true, Bool.not_false, Bool.not_eq_false', Bool.cond_false_right, Bool.and_eq_true, imp_self, Bool.not_eq_true, Bool.cond_true_left, Bool.or_eq_true]
  simp only [all_bool, all_str]
  refine ⟨fun h => by rw [TxtO, h, bs_nil]; rfl, fun h => ?_⟩
  obtain ⟨h1, h2, h3, h4, h5⟩ := may_args h
  have hg : ∀ i, i < l.length → 0 ≤ l.getD i 0 ∧ l.getD i 0 ≤ 2147483647 := fun i hi => h3 _ (by
    rw [List.getD_eq_getElem?_getD, List.getElem?_eq_getElem hi]
    exact List.getElem_mem _)
  rw [show bs { data := #[46] } = [46] by decide]
  refine ⟨fun y z => 0 ≤ y.1 ∧ y.1 ≤ l.length ∧ z.1 = (l.take y.1.toNat).map digD, fun y _ => ((l.length : Int) - y.1).toNat, ⟨Int.le_refl 0, by simp only; omega, by simp⟩, ?_⟩
  rintro ⟨i, _⟩ ⟨z, _⟩ _ _ ⟨i0, i1, ez⟩
  simp only at i0 i1 ez ⊢
  have hw1 : IntKind.wrap .i64 (i + 1) = i + 1 := wrapK _ (by omega) (by omega)
  have hz : z.length ≤ 20 := by rw [ez, List.length_map, List.length_take]; omega
  rw [hw1]
  refine ⟨fun hlt => ⟨⟨i0, hlt⟩, fun _ => ⟨by decide, by omega, by omega, ⟨by omega, by omega, ?_⟩, by omega⟩⟩, fun hge => ?_⟩
  · rw [itoa_pos (hg i.toNat (by omega)).1, show (i + 1).toNat = i.toNat + 1 by omega, take_snocO (by omega), List.map_append, ez]
    rfl
  · have e : joinO z [46] = txtO l := by rw [ez, List.take_of_length_le (by omega), join_txt (by omega)]
    have l1 := txtP_len (l := l) (fun i hi => (hg i hi).2) l.length (by omega) (by omega)
    rw [txtP_all (by omega)] at l1
    rw [e]
    exact ⟨⟨by omega, by omega⟩, fun _ => by rw [TxtO, h]; rfl⟩
theorem h10 : c_oid_Text.ok Tryd.prog GL 10 := con_ok (H := {}) (mkEnv_ok (gl := GL) (l := [(12, conSem c_oid_May), (23, conSem c_strconv_Itoa), (24, conSem c_strings_Join)]) (q := []) (d := []) _ tyOk (by kernel_rfl) ⟨h12.call, h23.call, h24.call, trivial⟩ trivial trivial) (by kernel_rfl) (by kernel_rfl) (Eq.mp e10 k10)

def t11 : Prop :=
  ∀ (x : List Int × Unit),
    Kd.wf (Kd.sl (Kd.int IntKind.i64)) x.fst ∧ True →
      True →
        True ∧
          (∀ (y : Bool × Unit),
              Kd.wf Kd.bool y.fst ∧ True →
                y.fst = mayO x.fst →
                  ((!y.fst) = true → (bs { data := #[] }, (2 : Int)) = TxtO x.fst) ∧
                    ((!y.fst) = false →
                      ((0 : Int) ≤ (0 : Int) ∧ (0 : Int) < (↑(List.length x.fst) : Int)) ∧
                        ((0 : Int) ≤ List.getD x.fst (0 : Nat) (Kd.dft (Kd.int IntKind.i64)) ∧ List.getD x.fst (0 : Nat) (Kd.dft (Kd.int IntKind.i64)) ≤ (2147483647 : Int)) ∧
                          (∀ (y : List Int × Unit),
                              Kd.wf Kd.str y.fst ∧ True →
                                y.fst = digD (List.getD x.fst (0 : Nat) (Kd.dft (Kd.int IntKind.i64))) →
                                  ∃ (I : Int × List Int × Unit → Unit → Prop),
                                    ∃ (μ : Int × List Int × Unit → Unit → Nat),
                                      (Value.bool false = Value.bool false ∧ (0 : Int) = (0 : Int) ∧ bs { data := #[] } = bs { data := #[] } ∧ x.fst = x.fst ∧ I ((1 : Int), y.fst, ()) ()) ∧
                                        ∀ (y : Int × List Int × Unit) (z : Unit),
                                          Kd.wf (Kd.int IntKind.i64) y.fst ∧ Kd.wf Kd.str y.snd.fst ∧ True →
                                            True →
                                              I y z →
                                                (decide (y.fst < (↑(List.length x.fst) : Int)) = true →
                                                    List.length y.snd.fst + (1 : Nat) ≤ (9223372036854775807 : Nat) ∧
                                                      ((0 : Int) ≤ y.fst ∧ y.fst < (↑(List.length x.fst) : Int)) ∧
                                                        ((0 : Int) ≤ List.getD x.fst (Int.toNat y.fst) (Kd.dft (Kd.int IntKind.i64)) ∧
                                                            List.getD x.fst (Int.toNat y.fst) (Kd.dft (Kd.int IntKind.i64)) ≤ (2147483647 : Int)) ∧
                                                          (∀ (y_1 : List Int × Unit),
                                                              Kd.wf Kd.str y_1.fst ∧ True →
                                                                y_1.fst = digD (List.getD x.fst (Int.toNat y.fst) (Kd.dft (Kd.int IntKind.i64))) →
                                                                  List.length (y.snd.fst ++ bs { data := #[(46 : UInt8)] }) + List.length y_1.fst ≤ (9223372036854775807 : Nat) ∧
                                                                    Value.bool false = Value.bool false ∧
                                                                      (0 : Int) = (0 : Int) ∧
                                                                        bs { data := #[] } = bs { data := #[] } ∧
                                                                          x.fst = x.fst ∧
                                                                            I (IntKind.wrap IntKind.i64 (y.fst + (1 : Int)), y.snd.fst ++ bs { data := #[(46 : UInt8)] } ++ y_1.fst, ()) () ∧
                                                                              μ (IntKind.wrap IntKind.i64 (y.fst + (1 : Int)), y.snd.fst ++ bs { data := #[(46 : UInt8)] } ++ y_1.fst, ()) () < μ y z) ∧
                                                            True) ∧
                                                  (decide (y.fst < (↑(List.length x.fst) : Int)) = false → (y.snd.fst, (0 : Int)) = TxtO x.fst)) ∧
                            True)) ∧
            True
theorem e11 : t11 = Con.vc c_r03_Text GL (mkEnv ty [(13, conSem c_r03_May), (25, conSem c_r03_Digits)] [] [] [0, 2, 3, 4, 5, 8, 16]) {} Tryd.f11.ntmps Tryd.f11.results.toList (bodyOf Tryd.f11) := by kernel_rfl
theorem k11 : t11 := by
  unfold t11
  rintro ⟨l, _⟩ hx hp
  try dsimp +instances only [dft_int, dft_sl, dft_str]
  simp only [true_and, and_true, eq_self_iff_true, implies_true, reduceCtorEq, false_implies, true_implies, decide_eq_true_eq, decide_eq_false_iff_not, beq_self_eq_true, Bool.not_eq_true', ne_eq, Decidable.not_not, List.nil_append, List.length_singleton, List.length_cons, List.length_nil, Nat.zero_add, Nat.add_zero, Nat.mul_one, and_self, beq_iff_eq, Bool.not_true, Bool.not_false, Bool.not_eq_false', Bool.cond_false_right, Bool.and_eq_true, imp_self, Bool.not_eq_true, Bool.cond_true_left, Bool.or_eq_true]
  simp only [all_bool]
  refine ⟨fun h => by rw [TxtO, h, bs_nil]; rfl, fun h => ?_⟩
  obtain ⟨h1, h2, h3, h4, h5⟩ := may_args h
  have hg : ∀ i, i < l.length → 0 ≤ l.getD i 0 ∧ l.getD i 0 ≤ 2147483647 := fun i hi => h3 _ (by
    rw [List.getD_eq_getElem?_getD, List.getElem?_eq_getElem hi]
    exact List.getElem_mem _)
  rw [show bs { data := #[46] } = [46] by decide]
  refine ⟨⟨by omega, by omega⟩, hg 0 (by omega), ?_⟩
  rintro ⟨a, _⟩ _ ea
  simp only at ea ⊢
  refine ⟨fun y _ => 1 ≤ y.1 ∧ y.1 ≤ l.length ∧ y.2.1 = txtP l y.1.toNat, fun y _ => ((l.length : Int) - y.1).toNat, ⟨by simp, by simp only; omega, by rw [ea]; exact (txtP_one l).symm⟩, ?_⟩
  rintro ⟨i, z, _⟩ _ _ ⟨i0, i1, ez⟩
  simp only at i0 i1 ez ⊢
  have hw1 : IntKind.wrap .i64 (i + 1) = i + 1 := wrapK _ (by omega) (by omega)
  have l1 := txtP_len (l := l) (fun i hi => (hg i hi).2) i.toNat (by omega) (by omega)
  rw [← ez] at l1
  rw [hw1]
  refine ⟨fun hlt => ⟨by omega, ⟨by omega, hlt⟩, hg i.toNat (by omega), ?_⟩, fun hge => ?_⟩
  · rintro ⟨c, _⟩ _ ec
    simp only at ec ⊢
    have l2 := dig_len (hg i.toNat (by omega)).2
    rw [← ec] at l2
    refine ⟨by rw [List.length_append, List.length_singleton]; omega, ⟨by omega, by omega, ?_⟩, by omega⟩
    rw [show (i + 1).toNat = i.toNat + 1 by omega, txtP_step (by omega) (by omega), ez, ec]
  · rw [TxtO, h, if_pos rfl, ez, txtP_all (by omega)]
theorem h11 : c_r03_Text.ok Tryd.prog GL 11 := con_ok (H := {}) (mkEnv_ok (gl := GL) (l := [(13, conSem c_r03_May), (25, conSem c_r03_Digits)]) (q := []) (d := []) _ tyOk (by kernel_rfl) ⟨h13.call, h25.call, trivial⟩ trivial trivial) (by kernel_rfl) (by kernel_rfl) (Eq.mp e11 k11)

end Go.Proofs.YtkdffofjnjamlaaDoor
end
