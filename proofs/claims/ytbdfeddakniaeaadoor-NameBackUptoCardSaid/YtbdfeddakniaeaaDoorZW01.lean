/- Texts of a verified walk, led together: Gl12A, Gl12W, StrsA, StrsW, TextA, TextW. -/
import Derived.Test.YtbdfeddakniaeaaDoorZV05
import Derived.Test.YtbdfeddakniaeaaDoorZTy
import Derived.Test.YtbdfeddakniaeaaDoorZV06
import Derived.Test.YtbdfeddakniaeaaDoorZShelf
set_option linter.unusedVariables false
set_option linter.unusedSimpArgs false
section
namespace Go.Proofs.YtbdfeddakniaeaaDoor
open Go Go.Vc Go.Pl Go.Proofs
def GL : Gl := [(1, .arr U8 Lib.firstTab), (2, .arr (.pair U8 U8) accTab), (0, .num .i64)]
end Go.Proofs.YtbdfeddakniaeaaDoor
end
section
namespace Go.Proofs.YtbdfeddakniaeaaDoor
open Go Go.Vc Go.Pl Go.Proofs
end Go.Proofs.YtbdfeddakniaeaaDoor
end
section
namespace Go.Proofs.YtbdfeddakniaeaaDoor
open Go Go.Vc Go.Pl Go.Proofs
def c_bytealg_IndexByteString : Con := { args := [Kd.str, U8].map .dat, res := [.dat I64], pre := fun _ => True, post := fun x y => y.1 = idxB x.1 x.2.1 }
def c_stringslite_IndexByte : Con := { args := [.dat .str, .dat U8], res := [.dat I64], pre := fun _ => True, post := fun x y => y.1 = idxB x.1 x.2.1 }
def c_strings_IndexByte : Con := { args := [.dat .str, .dat U8], res := [.dat I64], pre := fun _ => True, post := fun x y => y.1 = idxB x.1 x.2.1 }
def c_stringslite_Index : Con := { args := [Kd.str, Kd.str].map .dat, res := [I64].map .dat, pre := fun x => x.1.length < 4294967281, post := fun x y => y.1 = idxS x.1 x.2.1 }
def c_stringslite_Cut : Con := { args := [.dat .str, .dat .str], res := [.dat .str, .dat .str, .dat .bool], pre := fun x => x.1.length < 4294967281 ∧ x.2.1.length = 1, post := fun x y => y.1 = (cutD (x.2.1.getD 0 0) x.1).1 ∧ y.2.1 = (cutD (x.2.1.getD 0 0) x.1).2.1 ∧ y.2.2.1 = (cutD (x.2.1.getD 0 0) x.1).2.2 }
def c_strings_Cut : Con := { args := [.dat .str, .dat .str], res := [.dat .str, .dat .str, .dat .bool], pre := fun x => x.1.length < 4294967281 ∧ x.2.1.length = 1, post := fun x y => y.1 = (cutD (x.2.1.getD 0 0) x.1).1 ∧ y.2.1 = (cutD (x.2.1.getD 0 0) x.1).2.1 ∧ y.2.2.1 = (cutD (x.2.1.getD 0 0) x.1).2.2 }
end Go.Proofs.YtbdfeddakniaeaaDoor
end
section
namespace Go.Proofs.YtbdfeddakniaeaaDoor
open Go Go.Vc Go.Pl Go.Proofs
set_option linter.unusedVariables false
set_option linter.unusedSimpArgs false
abbrev wrZ (x : Int) : Int := IntKind.wrap IntKind.i64 x
abbrev wiZ (x : Int) : Prop := Kd.wf (Kd.int IntKind.i64) x
abbrev wsZ (x : List Int) : Prop := Kd.wf Kd.str x
abbrev wbZ (x : Bool) : Prop := Kd.wf Kd.bool x
abbrev lnZ {α : Type} (x : List α) : Int := (↑(List.length x) : Int)
abbrev q0 := (List Int × Int × Unit)
abbrev q1 := (Int × Unit)
abbrev q2 := (List Int × List Int × Unit)
abbrev q3 := (List Int × List Int × Bool × Unit)
abbrev q21 (p0 : q1) := (wiZ p0.1 /\ True)
abbrev q185 := (0 : Nat)
abbrev q172 := (0 : Int)
abbrev q22 (p0 : q2) := (cutD (List.getD p0.2.1 q185 q172) p0.1)
abbrev q23 (p0 : q1) := (Int.toNat p0.1)
abbrev q24 := (1 : Nat)
abbrev q25 := (0 : Int)
abbrev q211 := (Kd.int IntKind.u8)
theorem h193 : CallOk Tryd.prog GL 193 (conSem c_bytealg_IndexByteString) := by
  refine ext_ok (ks := [Kd.str, U8]) (k := I64) rfl ?_
  rintro w F ⟨l, c, u⟩ vs h _
  obtain ⟨v1, r1, rfl, h1, v2, r2, rfl, h2, rfl⟩ := h
  obtain ⟨s, rfl, rfl, hs⟩ := VRep_str.1 h1
  obtain ⟨rfl, hc⟩ := VRep_int.1 h2
  have hc2 : 0 ≤ c ∧ c ≤ 255 := inr_u8.1 hc
  refine ⟨_, (Lib.indexByte s.data.toList c.toNat.toUInt8 : Int), ?_, idxB_lib _ _ hc2, VRep_int.2 ⟨rfl, ?_⟩⟩
  . rw [run_callFunc_extern Tryd.func193 (by kernel_rfl) (by kernel_rfl) (by kernel_rfl) (e := Extern.BytealgIndexByte.indexByte) (by kernel_rfl)]
    show ((Extern.BytealgIndexByte.indexByte #[.string s, .int .u8 c]).run Tryd.prog w).andThen _ = _
    rw [Lib.run_indexByteString]
    rfl
  . rw [idxB_lib _ _ hc2]
    have h1 := idxB_ge (bs s) c
    have h3 : s.size ≤ 9223372036854775807 := hs
    rw [bs_length] at h1
    show InR .i64 (idxB (bs s) c)
    generalize idxB (bs s) c = r at h1 ⊢
    simp [InR, IntKind.min, IntKind.max, IntKind.signed, IntKind.bits]
    omega
def t174 : Prop :=
  ∀ (x : q0), (wsZ x.1 /\ Kd.wf q211 x.2.1 /\ True) -> True -> True /\ (∀ (y : q1), (q21 y) -> y.1 = idxB x.1 x.2.1 -> y.1 = idxB x.1 x.2.1) /\ True
theorem e174 : t174 = Con.vc c_stringslite_IndexByte GL (mkEnv ty [(193, conSem c_bytealg_IndexByteString)] [] [] [0, 1, 4]) {} Tryd.f174.ntmps Tryd.f174.results.toList (bodyOf Tryd.f174) := by kernel_rfl
theorem k174 : t174 := by
  unfold t174
  delta q0 wsZ q211 q1 q21 wiZ
  rintro ⟨l, c, _⟩ hx _
  try dsimp +instances only [dft_int, dft_sl, dft_str]
  simp only [true_and, and_true, eq_self_iff_true, implies_true, reduceCtorEq, false_implies, true_implies, decide_eq_true_eq, decide_eq_false_iff_not, beq_self_eq_true, Bool.not_eq_true', ne_eq, Decidable.not_not, List.nil_append, List.length_singleton, List.length_cons, List.length_nil, Nat.zero_add, Nat.add_zero, Nat.mul_one, and_self, beq_iff_eq, Bool.not_true, Bool.not_false, Bool.not_eq_false', Bool.cond_false_right, Bool.and_eq_true, imp_self, Bool.not_eq_true, Bool.cond_true_left, Bool.or_eq_true]
theorem h174 : c_stringslite_IndexByte.ok Tryd.prog GL 174 := con_ok (H := {}) (mkEnv_ok (gl := GL) (l := [(193, conSem c_bytealg_IndexByteString)]) (q := []) (d := []) _ tyOk (by kernel_rfl) ⟨h193, trivial⟩ trivial trivial) (by kernel_rfl) (by kernel_rfl) (Eq.mp e174 k174)
def t170 : Prop :=
  ∀ (x : q0), (wsZ x.1 /\ Kd.wf q211 x.2.1 /\ True) -> True -> True /\ (∀ (y : q1), (q21 y) -> y.1 = idxB x.1 x.2.1 -> y.1 = idxB x.1 x.2.1) /\ True
theorem e170 : t170 = Con.vc c_strings_IndexByte GL (mkEnv ty [(174, conSem c_stringslite_IndexByte)] [] [] [0, 1, 4]) {} Tryd.f170.ntmps Tryd.f170.results.toList (bodyOf Tryd.f170) := by kernel_rfl
theorem k170 : t170 := by
  unfold t170
  delta q0 wsZ q211 q1 q21 wiZ
  rintro ⟨l, c, _⟩ hx _
  try dsimp +instances only [dft_int, dft_sl, dft_str]
  simp only [true_and, and_true, eq_self_iff_true, implies_true, reduceCtorEq, false_implies, true_implies, decide_eq_true_eq, decide_eq_false_iff_not, beq_self_eq_true, Bool.not_eq_true', ne_eq, Decidable.not_not, List.nil_append, List.length_singleton, List.length_cons, List.length_nil, Nat.zero_add, Nat.add_zero, Nat.mul_one, and_self, beq_iff_eq, Bool.not_true, Bool.not_false, Bool.not_eq_false', Bool.cond_false_right, Bool.and_eq_true, imp_self, Bool.not_eq_true, Bool.cond_true_left, Bool.or_eq_true]
theorem h170 : c_strings_IndexByte.ok Tryd.prog GL 170 := con_ok (H := {}) (mkEnv_ok (gl := GL) (l := [(174, conSem c_stringslite_IndexByte)]) (q := []) (d := []) _ tyOk (by kernel_rfl) ⟨h174.call, trivial⟩ trivial trivial) (by kernel_rfl) (by kernel_rfl) (Eq.mp e170 k170)
theorem h146 : c_stringslite_Index.ok Tryd.prog GL 146 := by
  refine lib_ok (ks := [Kd.str, Kd.str]) (rs := [I64]) Tryd.func146 (by kernel_rfl) (by decide) ?_
  rintro w F ⟨l, m, u⟩ vs h hg hp
  obtain ⟨v1, r1, rfl, h1, v2, r2, rfl, h2, rfl⟩ := h
  obtain ⟨s, rfl, rfl, hs⟩ := VRep_str.1 h1
  obtain ⟨t, rfl, rfl, ht⟩ := VRep_str.1 h2
  obtain ⟨_, _, k, hk⟩ := hg 0 (.num .i64) rfl
  have hp : (bs s).length < 4294967281 := hp
  rw [bs_length] at hp
  refine Calls.mono (Tryd.stringslite_Index s t k w hp hk) ?_
  rintro e w' ⟨rfl, rfl⟩
  have hb : ∀ s : ByteArray, Bys (bs s) := bs_range
  have e1 : Lib.index s.data.toList t.data.toList = idxS (bs s) (bs t) := by
    rw [← u8s_bs s, ← u8s_bs t, idxS_lib _ _ (hb s) (hb t)]
  rw [e1]
  have h1 := idxS_ge (bs s) (bs t)
  rw [bs_length] at h1
  refine ⟨Kept.refl _ _, [_], (idxS (bs s) (bs t), ()), rfl, rfl, _, [], rfl, VRep_int.2 ⟨rfl, ?_⟩, rfl⟩
  generalize idxS (bs s) (bs t) = r at h1 ⊢
  simp [InR, IntKind.min, IntKind.max, IntKind.signed, IntKind.bits]
  omega
def t106 : Prop :=
  ∀ (x : q2), (wsZ x.1 /\ wsZ x.2.1 /\ True) -> List.length x.1 < (4294967281 : Nat) /\ List.length x.2.1 = q24 -> List.length x.1 < (4294967281 : Nat) /\ (∀ (y : q1), (q21 y) -> y.1 = idxS
  x.1 x.2.1 -> (decide (q25 <= y.1) = true -> (q25 <= y.1 /\ y.1 <= (lnZ x.1)) /\ (q25 <= wrZ (y.1 + (lnZ x.2.1)) /\ wrZ (y.1 + (lnZ x.2.1)) <= (lnZ x.1)) /\ List.take (q23 y) x.1 = (q22 x).1
  /\ List.drop (Int.toNat (wrZ (y.1 + (lnZ x.2.1)))) x.1 = (q22 x).2.1 /\ true = (q22 x).2.2) /\ (decide (q25 <= y.1) = false -> x.1 = (q22 x).1 /\ bs { data := #[] } = (q22 x).2.1 /\ false =
  (q22 x).2.2)) /\ True
theorem e106 : t106 = Con.vc c_stringslite_Cut GL (mkEnv ty [(146, conSem c_stringslite_Index)] [] [] [0, 1, 4, 5, 6, 7, 12]) {} Tryd.f106.ntmps Tryd.f106.results.toList (bodyOf Tryd.f106) := by kernel_rfl
theorem k106 : t106 := by
  unfold t106
  delta q2 wsZ q24 q1 q21 q25 lnZ wrZ q23 q22 wiZ q185 q172
  rintro ⟨l, c, _⟩ hx hp
  have h1 : l.length < 4294967281 := hp.1
  have h2 : c.length = 1 := hp.2
  try dsimp +instances only [dft_int, dft_sl, dft_str]
  simp only [true_and, and_true, eq_self_iff_true, implies_true, reduceCtorEq, false_implies, true_implies, decide_eq_true_eq, decide_eq_false_iff_not, beq_self_eq_true, Bool.not_eq_true', ne_eq, Decidable.not_not, List.nil_append, List.length_singleton, List.length_cons, List.length_nil, Nat.zero_add, Nat.add_zero, Nat.mul_one, and_self, beq_iff_eq, Bool.not_true, Bool.not_false, Bool.not_eq_false', Bool.cond_false_right, Bool.and_eq_true, imp_self, Bool.not_eq_true, Bool.cond_true_left, Bool.or_eq_true]
  refine ⟨h1, ?_⟩
  rintro ⟨a, _⟩ _ ea
  simp only at ea ⊢
  obtain ⟨d, rfl⟩ : ∃ d, c = [d] := List.length_eq_one_iff.1 h2
  rw [idxS_one] at ea
  have hb := idxB_ge l d
  have hd : ([d] : List Int).getD 0 0 = d := rfl
  rw [hd, cutD_idx]
  have hw : IntKind.wrap .i64 (a + ([d] : List Int).length) = a + 1 := wrapK _ (by simp; omega) (by simp; omega)
  rw [hw, ea]
  refine ⟨fun h => ⟨⟨h, by omega⟩, ⟨by omega, by omega⟩, ?_⟩, fun h => ?_⟩
  . rw [if_pos h, show (idxB l d + 1).toNat = (idxB l d).toNat + 1 by omega]
    exact ⟨rfl, rfl, rfl⟩
  . rw [if_neg h]
    exact ⟨rfl, rfl, rfl⟩
theorem h106 : c_stringslite_Cut.ok Tryd.prog GL 106 := con_ok (H := {}) (mkEnv_ok (gl := GL) (l := [(146, conSem c_stringslite_Index)]) (q := []) (d := []) _ tyOk (by kernel_rfl) ⟨h146.call, trivial⟩ trivial trivial) (by kernel_rfl) (by kernel_rfl) (Eq.mp e106 k106)
def t47 : Prop :=
  ∀ (x : q2), (wsZ x.1 /\ wsZ x.2.1 /\ True) -> List.length x.1 < (4294967281 : Nat) /\ List.length x.2.1 = q24 -> (List.length x.1 < (4294967281 : Nat) /\ List.length x.2.1 = q24) /\ (∀ (y :
  q3), (wsZ y.1 /\ wsZ y.2.1 /\ wbZ y.2.2.1 /\ True) -> y.1 = (q22 x).1 /\ y.2.1 = (q22 x).2.1 /\ y.2.2.1 = (q22 x).2.2 -> y.1 = (q22 x).1 /\ y.2.1 = (q22 x).2.1 /\ y.2.2.1 = (q22 x).2.2) /\
  True
theorem e47 : t47 = Con.vc c_strings_Cut GL (mkEnv ty [(106, conSem c_stringslite_Cut)] [] [] [0, 1, 4, 5, 6]) {} Tryd.f47.ntmps Tryd.f47.results.toList (bodyOf Tryd.f47) := by kernel_rfl
theorem k47 : t47 := by
  unfold t47
  delta q2 wsZ q24 q3 wbZ q22 q185 q172
  rintro ⟨l, c, _⟩ hx hp
  try dsimp +instances only [dft_int, dft_sl, dft_str]
  simp only [true_and, and_true, eq_self_iff_true, implies_true, reduceCtorEq, false_implies, true_implies, decide_eq_true_eq, decide_eq_false_iff_not, beq_self_eq_true, Bool.not_eq_true', ne_eq, Decidable.not_not, List.nil_append, List.length_singleton, List.length_cons, List.length_nil, Nat.zero_add, Nat.add_zero, Nat.mul_one, and_self, beq_iff_eq, Bool.not_true, Bool.not_false, Bool.not_eq_false', Bool.cond_false_right, Bool.and_eq_true, imp_self, Bool.not_eq_true, Bool.cond_true_left, Bool.or_eq_true]
  exact hp
theorem h47 : c_strings_Cut.ok Tryd.prog GL 47 := con_ok (H := {}) (mkEnv_ok (gl := GL) (l := [(106, conSem c_stringslite_Cut)]) (q := []) (d := []) _ tyOk (by kernel_rfl) ⟨h106.call, trivial⟩ trivial trivial) (by kernel_rfl) (by kernel_rfl) (Eq.mp e47 k47)
end Go.Proofs.YtbdfeddakniaeaaDoor
end
section
namespace Go.Proofs.YtbdfeddakniaeaaDoor
open Go Go.Vc Go.Pl Go.Proofs
def c_utf8_DecodeRuneInString : Con := { args := [.dat .str], res := [.dat I32, .dat I64], pre := fun _ => True, post := fun x y => y.1 = (decD x.1).1 ∧ y.2.1 = (decD x.1).2 }
def c_utf8_decodeRuneInStringSlow : Con := { args := [.dat .str], res := [.dat I32, .dat I64], pre := fun _ => True, post := fun x y => y.1 = (decD x.1).1 ∧ y.2.1 = (decD x.1).2 }
def c_text_Valid : Con := { args := [.dat .str], res := [.dat I64], pre := fun _ => True, post := fun x y => y.1 = vld x.1 0 }
def c_text_small : Con := { args := [.dat U8], res := [.dat U8], pre := fun _ => True, post := fun x y => y.1 = smallD x.1 }
def c_text_prints : Con := { args := [.dat U8], res := [.dat .bool], pre := fun _ => True, post := fun x y => y.1 = printsD x.1 }
def c_text_Fold : Con := { args := [.dat .str], res := [.dat .str], pre := fun x => x.1.length ≤ 100000000, post := fun x y => y.1 = foldD x.1 }
def c_text_Same : Con := { args := [.dat .str, .dat .str], res := [.dat .bool], pre := fun x => x.1.length ≤ 100000000 ∧ x.2.1.length ≤ 100000000, post := fun x y => y.1 = decide (foldD x.1 = foldD x.2.1) }
def c_text_May : Con := { args := [.dat I64, .dat .str], res := [.dat .bool], pre := fun _ => True, post := fun x y => y.1 = mayD x.1 x.2.1 }
def c_text_Kind : Con := { args := [.dat .str], res := [.dat I64, .dat I64], pre := fun _ => True, post := fun x y => y.1 = (kindD x.1).1 ∧ y.2.1 = (kindD x.1).2 }
end Go.Proofs.YtbdfeddakniaeaaDoor
end
section
namespace Go.Proofs.YtbdfeddakniaeaaDoor
open Go Go.Vc Go.Pl Go.Proofs
set_option linter.unusedVariables false
set_option linter.unusedSimpArgs false
abbrev wyZ (x : List Int) : Prop := Kd.wf (Kd.sl (Kd.int IntKind.u8)) x
abbrev q4 := (List Int × Unit)
abbrev q5 := (Int × Int × Unit)
abbrev q6 := (Int × Bool × Unit -> Unit -> Prop)
abbrev q7 := (Int × Bool × Unit -> Unit -> Nat)
abbrev q8 := (Int × Bool × Unit)
abbrev q9 := (Bool × Unit)
abbrev q10 := (Int × Unit -> Unit × (List Int × Unit) × List Int × Unit -> Prop)
abbrev q11 := (Int × Unit -> Unit × (List Int × Unit) × List Int × Unit -> Nat)
abbrev q12 := (Unit × (List Int × Unit) × List Int × Unit)
abbrev q229 := (0 : Int)
abbrev q227 (p0 : q4) := (Int.toNat (List.getD p0.1 (0 : Nat) (0 : Int)))
abbrev q233 := (Kd.int IntKind.u8)
abbrev q222 (p0 : q4) := (Int.toNat (Int.fdiv (List.getD Lib.firstTab (q227 p0) (Kd.dft q233)) ((2 : Int) ^ (4 : Nat))))
abbrev q197 (p0 : q4) := (List.getD p0.1 (1 : Nat) q229 < (List.getD accTab (q222 p0) (Kd.dft (Kd.pair q211 q211))).1)
abbrev q198 (p0 : q4) := (List.getD accTab (q222 p0) (Kd.dft (Kd.pair q211 q211)))
abbrev q26 (p0 : q4) := (bif decide (q197 p0) then true else decide ((q198 p0).2 < List.getD p0.1 (1 : Nat) q172))
abbrev q27 (p0 : q4) := (decide (q197 p0) = false -> True)
abbrev q28 (p0 : q4) := (decide (q197 p0) == false)
abbrev q29 (p0 : q4) := (List.getD p0.1 (1 : Nat) q172 < (q198 p0).1)
abbrev q216 (p0 : q4) := (List.getD Lib.firstTab (q227 p0) (Kd.dft q233))
abbrev q199 (p0 : q4) := (IntKind.wrap IntKind.u8 (↑(BitVec.toNat (BitVec.ofInt (8 : Nat) (q216 p0) &&& BitVec.ofInt (8 : Nat) (7 : Int))) : Int))
abbrev q30 (p0 : q4) := ((lnZ p0.1) < wrZ (q199 p0))
abbrev q181 := (2 : Int)
abbrev q31 (p0 : q4) := (wrZ (q199 p0) <= q181)
abbrev q32 (p0 : q4) := (wrZ (q199 p0) <= (3 : Int))
abbrev q33 (p0 : q4) := (Int.fdiv (IntKind.wrap IntKind.i32 (IntKind.wrap IntKind.i32 (q216 p0) * q181 ^ (31 : Nat))) (q181 ^ (31 : Nat)))
abbrev q34 (p0 : q4) := (IntKind.wrap IntKind.u8 (↑(BitVec.toNat (BitVec.ofInt (8 : Nat) (List.getD p0.1 (1 : Nat) q172) &&& BitVec.ofInt (8 : Nat) (63 : Int))) : Int))
abbrev q35 (p0 : q4) := (IntKind.wrap IntKind.u8 (↑(BitVec.toNat (BitVec.ofInt (8 : Nat) (List.getD p0.1 (2 : Nat) q172) &&& BitVec.ofInt (8 : Nat) (63 : Int))) : Int))
abbrev q166 := (128 : Int)
abbrev q36 (p0 : q4) := (bif decide (List.getD p0.1 (2 : Nat) q172 < q166) then true else decide ((191 : Int) < List.getD p0.1 (2 : Nat) q172))
abbrev q37 (p0 : q4) := (bif decide (List.getD p0.1 (3 : Nat) q172 < q166) then true else decide ((191 : Int) < List.getD p0.1 (3 : Nat) q172))
abbrev q200 := (Kd.dft q211)
abbrev q38 (p0 : q4) := ((240 : Int) <= List.getD Lib.firstTab (q227 p0) q200)
abbrev q39 (p0 : q4) := (List.getD Lib.firstTab (q227 p0) q200)
abbrev q40 (p0 : q4) := (List.getD p0.1 (2 : Nat) q172 < q166)
abbrev q41 (p0 : q4) := (List.getD p0.1 (3 : Nat) q172 < q166)
abbrev q42 (p0 : q4) := (q172 <= q172 /\ q172 < (lnZ p0.1))
abbrev q43 (p0 : q4) := (q172 <= (1 : Int) /\ (1 : Int) < (lnZ p0.1))
abbrev q44 (p0 : q4) := (List.getD p0.1 q185 q172)
abbrev q45 (p0 : q4) := (wsZ p0.1 /\ True)
abbrev q46 := (65536 : Nat)
abbrev q47 := (1 : Int)
abbrev q48 := (0 : Nat)
abbrev q49 := (2 : Nat)
abbrev q50 := (2 : Int)
abbrev q51 (p0 : q4) := (bif decide (p0.1 ≠ bs { data := #[] }) then decide (List.getD p0.1 q185 q172 < q166) else false)
abbrev q52 (p0 : q4) := (p0.1 ≠ bs { data := #[] })
abbrev q53 (p0 : q1) := (bif decide ((65 : Int) <= p0.1) then decide (p0.1 <= (90 : Int)) else false)
abbrev q54 (p0 : q1) := (Kd.wf q211 p0.1 /\ True)
abbrev q55 := (48 : Int)
abbrev q56 (p0 : q8) := (wiZ p0.1 /\ wbZ p0.2.1 /\ True)
abbrev q57 (p0 : q9) := (wbZ p0.1 /\ True)
abbrev q58 (p0 : q1) (p1 : q1) (p2 : q12) (p3 : q1) := (List.getD (List.drop (Int.toNat p0.1) (List.take (Int.toNat (wrZ (p0.1 + p1.1))) p2.2.1.1)) (Int.toNat p3.1) q172)
abbrev q59 (p0 : q1) (p1 : q1) (p2 : q12) := (lnZ (List.drop (Int.toNat p0.1) (List.take (Int.toNat (wrZ (p0.1 + p1.1))) p2.2.1.1)))
abbrev q60 (p0 : q1) (p1 : q1) (p2 : q12) := (List.take (Int.toNat (wrZ (p0.1 + p1.1))) p2.2.1.1)
abbrev q61 (p0 : q1) := (decide (q172 < p0.1) = true -> True)
abbrev q62 (p0 : q1) := (decide (q172 < p0.1) == true)
abbrev q63 := (9223372036854775807 : Nat)
abbrev q64 := (140737488355328 : Nat)
abbrev q65 := (100000000 : Nat)
abbrev q66 (p0 : q1) := (q172 < p0.1)
abbrev q167 (p0 : q1) := (p0.1 + (1 : Int))
def t180 : Prop :=
  ∀ (x : q4), (q45 x) -> True -> (decide ((lnZ x.1) < q47) = true -> (65533 : Int) = (decD x.1).1 /\ q25 = (decD x.1).2) /\ (decide ((lnZ x.1) < q47) = false -> (q42 x) /\ (q25 <= List.getD
  x.1 q48 q25 /\ List.getD x.1 q48 q25 < (↑(256 : Nat) : Int) /\ List.getD x.1 q48 q25 < (↑(256 : Nat) : Int)) /\ (decide (q38 x) = true -> q25 <= (31 : Int) /\ q25 <= (31 : Int) /\ (q42 x)
  /\ IntKind.wrap IntKind.i32 (↑(BitVec.toNat (BitVec.ofInt (32 : Nat) (IntKind.wrap IntKind.i32 (↑(BitVec.toNat (BitVec.ofInt (32 : Nat) (IntKind.wrap IntKind.i32 (q44 x)) &&&
  ~~~BitVec.ofInt (32 : Nat) (q33 x))) : Int)) ||| BitVec.ofInt (32 : Nat) (IntKind.wrap IntKind.i32 (↑(BitVec.toNat (BitVec.ofInt (32 : Nat) (65533 : Int) &&& BitVec.ofInt (32 : Nat) (q33
  x))) : Int)))) : Int) = (decD x.1).1 /\ q47 = (decD x.1).2) /\ (decide (q38 x) = false -> q25 <= (4 : Int) /\ (q25 <= Int.fdiv (q39 x) ((2 : Int) ^ (4 : Nat)) /\ Int.fdiv (q39 x) ((2 : Int)
  ^ (4 : Nat)) < (↑(16 : Nat) : Int) /\ Int.fdiv (q39 x) ((2 : Int) ^ (4 : Nat)) < (↑(16 : Nat) : Int)) /\ q49 <= q46 /\ (decide (q30 x) = true -> (65533 : Int) = (decD x.1).1 /\ q47 = (decD
  x.1).2) /\ (decide (q30 x) = false -> (q43 x) /\ (q27 x) /\ (decide (q29 x) = false -> (q28 x) = true /\ True) /\ (q27 x) /\ (decide (q29 x) = false -> (q28 x) = true /\ (q28 x) = true /\
  True) /\ (decide (q29 x) = false -> (q28 x) = true) /\ ((q26 x) = true -> (65533 : Int) = (decD x.1).1 /\ q47 = (decD x.1).2) /\ ((q26 x) = false -> (decide (q31 x) = true -> q25 <= (6 :
  Int) /\ IntKind.wrap IntKind.i32 (↑(BitVec.toNat (BitVec.ofInt (32 : Nat) (IntKind.wrap IntKind.i32 (IntKind.wrap IntKind.i32 (IntKind.wrap IntKind.u8 (↑(BitVec.toNat (BitVec.ofInt (8 :
  Nat) (q44 x) &&& BitVec.ofInt (8 : Nat) (31 : Int))) : Int)) * q50 ^ (6 : Nat))) ||| BitVec.ofInt (32 : Nat) (IntKind.wrap IntKind.i32 (q34 x)))) : Int) = (decD x.1).1 /\ q50 = (decD
  x.1).2) /\ (decide (q31 x) = false -> (q25 <= q50 /\ q50 < (lnZ x.1)) /\ (decide (q40 x) = false -> True) /\ (decide (q40 x) = false -> (decide (q40 x) == false) = true /\ True) /\ (decide
  (q40 x) = false -> (decide (q40 x) == false) = true) /\ ((q36 x) = true -> (65533 : Int) = (decD x.1).1 /\ q47 = (decD x.1).2) /\ ((q36 x) = false -> (decide (q32 x) = true -> q25 <= (12 :
  Int) /\ q25 <= (6 : Int) /\ IntKind.wrap IntKind.i32 (↑(BitVec.toNat (BitVec.ofInt (32 : Nat) (IntKind.wrap IntKind.i32 (↑(BitVec.toNat (BitVec.ofInt (32 : Nat) (IntKind.wrap IntKind.i32
  (IntKind.wrap IntKind.i32 (IntKind.wrap IntKind.u8 (↑(BitVec.toNat (BitVec.ofInt (8 : Nat) (q44 x) &&& BitVec.ofInt (8 : Nat) (15 : Int))) : Int)) * q50 ^ (12 : Nat))) ||| BitVec.ofInt (32
  : Nat) (IntKind.wrap IntKind.i32 (IntKind.wrap IntKind.i32 (q34 x) * q50 ^ (6 : Nat))))) : Int)) ||| BitVec.ofInt (32 : Nat) (IntKind.wrap IntKind.i32 (q35 x)))) : Int) = (decD x.1).1 /\ (3
  : Int) = (decD x.1).2) /\ (decide (q32 x) = false -> (q25 <= (3 : Int) /\ (3 : Int) < (lnZ x.1)) /\ (decide (q41 x) = false -> True) /\ (decide (q41 x) = false -> (decide (q41 x) == false)
  = true /\ True) /\ (decide (q41 x) = false -> (decide (q41 x) == false) = true) /\ ((q37 x) = true -> (65533 : Int) = (decD x.1).1 /\ q47 = (decD x.1).2) /\ ((q37 x) = false -> q25 <= (18 :
  Int) /\ q25 <= (12 : Int) /\ q25 <= (6 : Int) /\ IntKind.wrap IntKind.i32 (↑(BitVec.toNat (BitVec.ofInt (32 : Nat) (IntKind.wrap IntKind.i32 (↑(BitVec.toNat (BitVec.ofInt (32 : Nat)
  (IntKind.wrap IntKind.i32 (↑(BitVec.toNat (BitVec.ofInt (32 : Nat) (IntKind.wrap IntKind.i32 (IntKind.wrap IntKind.i32 (IntKind.wrap IntKind.u8 (↑(BitVec.toNat (BitVec.ofInt (8 : Nat) (q44
  x) &&& BitVec.ofInt (8 : Nat) (7 : Int))) : Int)) * q50 ^ (18 : Nat))) ||| BitVec.ofInt (32 : Nat) (IntKind.wrap IntKind.i32 (IntKind.wrap IntKind.i32 (q34 x) * q50 ^ (12 : Nat))))) : Int))
  ||| BitVec.ofInt (32 : Nat) (IntKind.wrap IntKind.i32 (IntKind.wrap IntKind.i32 (q35 x) * q50 ^ (6 : Nat))))) : Int)) ||| BitVec.ofInt (32 : Nat) (IntKind.wrap IntKind.i32 (IntKind.wrap
  IntKind.u8 (↑(BitVec.toNat (BitVec.ofInt (8 : Nat) (List.getD x.1 (3 : Nat) q25) &&& BitVec.ofInt (8 : Nat) (63 : Int))) : Int))))) : Int) = (decD x.1).1 /\ (4 : Int) = (decD x.1).2))))))))
theorem e180 : t180 = Con.vc c_utf8_decodeRuneInStringSlow GL (mkEnv ty [] [] [] [0, 2, 3, 4, 5, 6, 7, 8, 9, 10, 11, 12, 16, 23, 45, 57, 59, 75, 77, 98]) {} Tryd.f180.ntmps Tryd.f180.results.toList (bodyOf Tryd.f180) := by kernel_rfl
theorem k180 : t180 := by
  unfold t180
  delta q4 q45 lnZ q47 q25 q42 q48 q38 q44 q33 q39 q49 q46 q30 q43 q27 q29 q28 q26 q31 q50 q34 q40 q36 q32 q35 q41 q37 wsZ q172 q227 q200 q185 q216 q181 wrZ q199 q197 q198 q166 q211 q233 q229 q222
  rintro ⟨l, _⟩ hx hp
  have hw : Kd.wf Kd.str l := hx.1
  try dsimp +instances only [dft_int, dft_sl, dft_str]
  simp only [true_and, and_true, eq_self_iff_true, implies_true, reduceCtorEq, false_implies, true_implies, decide_eq_true_eq, decide_eq_false_iff_not, beq_self_eq_true, Bool.not_eq_true', ne_eq, Decidable.not_not, List.nil_append, List.length_singleton, List.length_cons, List.length_nil, Nat.zero_add, Nat.add_zero, Nat.mul_one, and_self, beq_iff_eq, Bool.not_true, Bool.not_false, Bool.not_eq_false', Bool.cond_false_right, Bool.and_eq_true, imp_self, Bool.not_eq_true, Bool.cond_true_left, Bool.or_eq_true]
  simp only [Bool.or_eq_false_iff, decide_eq_false_iff_not]
  refine ⟨fun h => ?_, fun hne => ?_⟩
  . have : l = [] := List.eq_nil_of_length_eq_zero (by omega)
    subst this
    exact ⟨rfl, rfl⟩
  have hl : 1 ≤ l.length := by omega
  have hD : decD l = (((udec l 0).1 : Int), ((udec l 0).2 : Int)) := by rw [decD, if_neg (fun e => by rw [e] at hl; simp at hl)]
  have hu : udec l 0 = Lib.decodeN l.length (l.getD 0 0).toNat (l.getD 1 0).toNat (l.getD 2 0).toNat (l.getD 3 0).toNat := rfl
  rw [hD, hu]
  obtain ⟨b0, e0, g0⟩ := nat_of l hw 0
  obtain ⟨b1, e1, g1⟩ := nat_of l hw 1
  obtain ⟨b2, e2, g2⟩ := nat_of l hw 2
  obtain ⟨b3, e3, g3⟩ := nat_of l hw 3
  rw [e0, e1, e2, e3, Int.toNat_natCast, Int.toNat_natCast, Int.toNat_natCast, Int.toNat_natCast, first_get b0 g0]
  obtain ⟨f1, f2, f3⟩ := first_sz b0
  generalize hn : l.length = n at *
  refine ⟨⟨by decide, by omega⟩, ⟨by omega, by omega⟩, fun hF => ?_, fun hF => ?_⟩
  . have hF : 240 ≤ Lib.firstT b0 := by omega
    refine ⟨by decide, by decide, ⟨by decide, by omega⟩, ?_⟩
    rw [mask_eq b0 g0 hF]
    rcases f2 hF with h | h
    . rw [if_pos h, Lib.ascii_eq _ _ _ _ _ h]; exact ⟨rfl, rfl⟩
    . rw [if_neg (by omega), Lib.bad_eq _ _ _ _ _ g0 h]; exact ⟨rfl, rfl⟩
  . have hF : Lib.firstT b0 < 240 := by omega
    obtain ⟨s2, s4⟩ := f3 hF
    have hs := Lib.slow_eq n b0 b1 b2 b3 (by omega) g1 g2 g3 hF
    have hm : IntKind.i64.wrap (IntKind.u8.wrap ↑(BitVec.ofInt 8 (Lib.firstT b0 : Int) &&& BitVec.ofInt 8 7).toNat) = ((Lib.firstT b0 % 8 : Nat) : Int) := by
      rw [and_7 _ (by omega), wrapK _ (by omega) (by omega)]
    have hfd : (Lib.firstT b0 : Int).fdiv (2 ^ 4) = ((Lib.firstT b0 / 16 : Nat) : Int) := by
      rw [Int.fdiv_eq_ediv_of_nonneg _ (by decide)]
      omega
    have hac : Lib.firstT b0 / 16 < 16 := by omega
    rw [hm, hfd, Int.toNat_natCast, acc_get _ hac, ← hs]
    generalize Lib.firstT b0 % 8 = sz at *
    generalize Lib.firstT b0 / 16 = ac at *
    simp only
    refine ⟨by decide, ⟨by omega, by omega⟩, by decide, fun h => ?_, fun h => ⟨⟨by decide, by omega⟩, fun hb => ?_, fun hb => ⟨fun hz => ?_, fun hz => ⟨⟨by decide, by omega⟩, fun hc => ?_, fun hc => ⟨fun hz3 => ?_, fun hz3 => ⟨⟨by decide, by omega⟩, fun hd => ?_, fun hd => ?_⟩⟩⟩⟩⟩⟩
    . rw [Lib.slowN, if_pos (by omega)]; exact ⟨rfl, rfl⟩
    . rw [Lib.slowN, if_neg (by omega), if_pos (by omega)]; exact ⟨rfl, rfl⟩
    . rw [Lib.slowN, if_neg (by omega), if_neg (by omega), if_pos (by omega)]
      refine ⟨by decide, ?_, rfl⟩
      rw [and_31 b0 g0, and_63 b1 g1, or2 _ _ (by omega) (by omega)]
    . rw [Lib.slowN, if_neg (by omega), if_neg (by omega), if_neg (by omega), if_pos (by omega)]; exact ⟨rfl, rfl⟩
    . rw [Lib.slowN, if_neg (by omega), if_neg (by omega), if_neg (by omega), if_neg (by omega), if_pos (by omega)]
      refine ⟨by decide, by decide, ?_, rfl⟩
      rw [and_15 b0 g0, and_63 b1 g1, and_63 b2 g2, or3 _ _ _ (by omega) (by omega) (by omega)]
    . rw [Lib.slowN, if_neg (by omega), if_neg (by omega), if_neg (by omega), if_neg (by omega), if_neg (by omega), if_pos (by omega)]; exact ⟨rfl, rfl⟩
    . rw [Lib.slowN, if_neg (by omega), if_neg (by omega), if_neg (by omega), if_neg (by omega), if_neg (by omega), if_neg (by omega)]
      refine ⟨by decide, by decide, by decide, ?_, rfl⟩
      rw [and_7 b0 g0, and_63 b1 g1, and_63 b2 g2, and_63 b3 g3, or4 _ _ _ _ (by omega) (by omega) (by omega) (by omega)]
theorem h180 : c_utf8_decodeRuneInStringSlow.ok Tryd.prog GL 180 := con_ok (H := {}) (mkEnv_ok (gl := GL) (l := []) (q := []) (d := []) _ tyOk (by kernel_rfl) trivial trivial trivial) (by kernel_rfl) (by kernel_rfl) (Eq.mp e180 k180)
def t148 : Prop :=
  ∀ (x : q4), (q45 x) -> True -> (decide (q52 x) = true -> True) /\ (decide (q52 x) = true -> (decide (q52 x) == true) = true /\ (q42 x) /\ True) /\ (decide (q52 x) = true -> (decide (q52 x)
  == true) = true /\ True) /\ (decide (q52 x) = true -> (decide (q52 x) == true) = true) /\ ((q51 x) = true -> (q42 x) /\ IntKind.wrap IntKind.i32 (q44 x) = (decD x.1).1 /\ q47 = (decD
  x.1).2) /\ ((q51 x) = false -> True /\ (∀ (y : q5), (Kd.wf (Kd.int IntKind.i32) y.1 /\ wiZ y.2.1 /\ True) -> y.1 = (decD x.1).1 /\ y.2.1 = (decD x.1).2 -> y.1 = (decD x.1).1 /\ y.2.1 =
  (decD x.1).2) /\ True)
theorem e148 : t148 = Con.vc c_utf8_DecodeRuneInString GL (mkEnv ty [(180, conSem c_utf8_decodeRuneInStringSlow)] [] [] [0, 2, 3, 10]) {} Tryd.f148.ntmps Tryd.f148.results.toList (bodyOf Tryd.f148) := by kernel_rfl
theorem k148 : t148 := by
  unfold t148
  delta q4 q45 q52 q42 q51 q44 q47 q5 wiZ wsZ q172 lnZ q185 q166
  rintro ⟨l, _⟩ hx hp
  have hw : Kd.wf Kd.str l := hx.1
  try dsimp +instances only [dft_int, dft_sl, dft_str]
  simp only [true_and, and_true, eq_self_iff_true, implies_true, reduceCtorEq, false_implies, true_implies, decide_eq_true_eq, decide_eq_false_iff_not, beq_self_eq_true, Bool.not_eq_true', ne_eq, Decidable.not_not, List.nil_append, List.length_singleton, List.length_cons, List.length_nil, Nat.zero_add, Nat.add_zero, Nat.mul_one, and_self, beq_iff_eq, Bool.not_true, Bool.not_false, Bool.not_eq_false', Bool.cond_false_right, Bool.and_eq_true, imp_self, Bool.not_eq_true, Bool.cond_true_left, Bool.or_eq_true]
  rw [bs_nil]
  refine ⟨fun h => ⟨h, by decide, by have := List.length_pos_iff.2 h; omega⟩, fun h => ⟨⟨by decide, by have := List.length_pos_iff.2 h.1; omega⟩, ?_⟩⟩
  have hb := str_get hw 0
  have hu := udec_ascii l 0 (by omega)
  rw [decD, if_neg h.1, hu]
  refine ⟨?_, rfl⟩
  show _ = (((l.getD 0 0).toNat : Nat) : Int)
  have h2 := h.2
  generalize l.getD 0 0 = b at hb h2 ⊢
  simp [IntKind.wrap, IntKind.signed, IntKind.bits]
  omega
theorem h148 : c_utf8_DecodeRuneInString.ok Tryd.prog GL 148 := con_ok (H := {}) (mkEnv_ok (gl := GL) (l := [(180, conSem c_utf8_decodeRuneInStringSlow)]) (q := []) (d := []) _ tyOk (by kernel_rfl) ⟨h180.call, trivial⟩ trivial trivial) (by kernel_rfl) (by kernel_rfl) (Eq.mp e148 k148)
def t133 : Prop :=
  ∀ (x : q4), (q45 x) -> True -> ∃ (I : Int × Unit -> Nat × Unit -> Prop), ∃ (μ : Int × Unit -> Nat × Unit -> Nat), (x.1 = x.1 /\ x.1 = x.1 /\ I (q25, ()) (q48, ())) /\ ∀ (y : q1) (z : Nat ×
  Unit), (q21 y) -> True -> I y z -> (z.1 < List.length x.1 -> (decide ((↑(udec x.1 z.1).1 : Int) ≠ (65533 : Int)) = true -> x.1 = x.1 /\ x.1 = x.1 /\ I (y.1, ()) (z.1 + (udec x.1 z.1).2, ())
  /\ μ (y.1, ()) (z.1 + (udec x.1 z.1).2, ()) < μ y z) /\ (decide ((↑(udec x.1 z.1).1 : Int) ≠ (65533 : Int)) = false -> (q25 <= (↑z.1 : Int) /\ (↑z.1 : Int) <= (lnZ x.1)) /\ True /\ (∀ (y_1
  : q5), (Kd.wf (Kd.int IntKind.i32) y_1.1 /\ wiZ y_1.2.1 /\ True) -> y_1.1 = (decD (List.drop (Int.toNat (↑z.1 : Int)) x.1)).1 /\ y_1.2.1 = (decD (List.drop (Int.toNat (↑z.1 : Int)) x.1)).2
  -> (decide (y_1.2.1 = q47) = true -> (↑z.1 : Int) = (↑(vld x.1 q48) : Int)) /\ (decide (y_1.2.1 = q47) = false -> x.1 = x.1 /\ x.1 = x.1 /\ I (y.1, ()) (z.1 + (udec x.1 z.1).2, ()) /\ μ
  (y.1, ()) (z.1 + (udec x.1 z.1).2, ()) < μ y z)) /\ True)) /\ (List.length x.1 <= z.1 -> (lnZ x.1) = (↑(vld x.1 q48) : Int))
theorem e133 : t133 = Con.vc c_text_Valid GL (mkEnv ty [(148, conSem c_utf8_DecodeRuneInString)] [] [] [0, 2, 3, 4, 6, 8, 9, 10, 14, 23]) {} Tryd.f133.ntmps Tryd.f133.results.toList (bodyOf Tryd.f133) := by kernel_rfl
theorem k133 : t133 := by
  unfold t133
  delta q4 q45 q25 q48 q1 q21 lnZ q5 wiZ q47 wsZ
  rintro ⟨l, _⟩ hx hp
  have hw : Kd.wf Kd.str l := hx.1
  try dsimp +instances only [dft_int, dft_sl, dft_str]
  simp only [true_and, and_true, eq_self_iff_true, implies_true, reduceCtorEq, false_implies, true_implies, decide_eq_true_eq, decide_eq_false_iff_not, beq_self_eq_true, Bool.not_eq_true', ne_eq, Decidable.not_not, List.nil_append, List.length_singleton, List.length_cons, List.length_nil, Nat.zero_add, Nat.add_zero, Nat.mul_one, and_self, beq_iff_eq, Bool.not_true, Bool.not_false, Bool.not_eq_false', Bool.cond_false_right, Bool.and_eq_true, imp_self, Bool.not_eq_true, Bool.cond_true_left, Bool.or_eq_true]
  refine ⟨fun _ z => z.1 ≤ l.length ∧ vld l 0 = vld l z.1, fun _ z => l.length - z.1, ⟨Nat.zero_le _, rfl⟩, ?_⟩
  rintro ⟨r, _⟩ ⟨i, _⟩ _ ⟨h0, h1⟩
  simp only at h0 h1 ⊢
  refine ⟨fun hlt => ?_, fun hge => ?_⟩
  . have hu := udec_w l i hlt
    have go : ¬ ((udec l i).1 = 65533 ∧ (udec l i).2 = 1) → (i + (udec l i).2 ≤ l.length ∧ vld l 0 = vld l (i + (udec l i).2)) ∧ l.length - (i + (udec l i).2) < l.length - i := fun h => by
      have hc : chw l i = (udec l i).2 := by rw [chw, if_neg h]
      have := vld_step hlt (by rw [hc]; omega)
      rw [hc] at this
      exact ⟨⟨hu.2.2, by rw [h1, this]⟩, by omega⟩
    refine ⟨fun h => go (fun hc => h (by omega)), fun h => ⟨⟨by omega, by omega⟩, ?_⟩⟩
    rintro ⟨a, b, _⟩ _ ⟨ea, eb⟩
    simp only at ea eb ⊢
    rw [Int.toNat_natCast, dec_drop l i hlt] at ea eb
    simp only at ea eb
    refine ⟨fun hb => ?_, fun hb => go (fun hc => hb (by omega))⟩
    rw [h1, vld_stop (fun hc => hc.2 (by rw [chw, if_pos (by omega)]))]
  . rw [h1, vld_stop (fun hc => by omega)]
    omega
theorem h133 : c_text_Valid.ok Tryd.prog GL 133 := con_ok (H := {}) (mkEnv_ok (gl := GL) (l := [(148, conSem c_utf8_DecodeRuneInString)]) (q := []) (d := []) _ tyOk (by kernel_rfl) ⟨h148.call, trivial⟩ trivial trivial) (by kernel_rfl) (by kernel_rfl) (Eq.mp e133 k133)
def t179 : Prop :=
  ∀ (x : q1), (q54 x) -> True -> (decide ((65 : Int) <= x.1) = true -> True) /\ (decide ((65 : Int) <= x.1) = true -> (decide ((65 : Int) <= x.1) == true) = true /\ True) /\ (decide ((65 :
  Int) <= x.1) = true -> (decide ((65 : Int) <= x.1) == true) = true) /\ ((q53 x) = true -> IntKind.wrap IntKind.u8 (IntKind.wrap IntKind.u8 (x.1 + (97 : Int)) - (65 : Int)) = smallD x.1) /\
  ((q53 x) = false -> x.1 = smallD x.1)
theorem e179 : t179 = Con.vc c_text_small GL (mkEnv ty [] [] [] [0, 2, 8]) {} Tryd.f179.ntmps Tryd.f179.results.toList (bodyOf Tryd.f179) := by kernel_rfl
theorem k179 : t179 := by
  unfold t179
  delta q1 q54 q53 q211
  rintro ⟨l, _⟩ hx hp
  try dsimp +instances only [dft_int, dft_sl, dft_str]
  simp only [true_and, and_true, eq_self_iff_true, implies_true, reduceCtorEq, false_implies, true_implies, decide_eq_true_eq, decide_eq_false_iff_not, beq_self_eq_true, Bool.not_eq_true', ne_eq, Decidable.not_not, List.nil_append, List.length_singleton, List.length_cons, List.length_nil, Nat.zero_add, Nat.add_zero, Nat.mul_one, and_self, beq_iff_eq, Bool.not_true, Bool.not_false, Bool.not_eq_false', Bool.cond_false_right, Bool.and_eq_true, imp_self, Bool.not_eq_true, Bool.cond_true_left, Bool.or_eq_true]
  refine ⟨fun h => ?_, fun h => ?_⟩
  . rw [smallD, if_pos h]
    simp [IntKind.wrap, IntKind.signed, IntKind.bits]
    omega
  . rw [smallD, if_neg (fun hc => by
      rcases Bool.and_eq_false_iff.1 h with h | h
      . exact of_decide_eq_false h hc.1
      . exact of_decide_eq_false h hc.2)]
theorem h179 : c_text_small.ok Tryd.prog GL 179 := con_ok (H := {}) (mkEnv_ok (gl := GL) (l := []) (q := []) (d := []) _ tyOk (by kernel_rfl) trivial trivial trivial) (by kernel_rfl) (by kernel_rfl) (Eq.mp e179 k179)
def t134 : Prop :=
  ∀ (x : q1), (q54 x) -> True -> (decide ((97 : Int) <= x.1) = true -> True) /\ (decide ((97 : Int) <= x.1) = true -> (decide ((97 : Int) <= x.1) == true) = true /\ True) /\ (decide ((97 :
  Int) <= x.1) = true -> (decide ((97 : Int) <= x.1) == true) = true) /\ ((bif decide ((97 : Int) <= x.1) then decide (x.1 <= (122 : Int)) else false) = true -> true = printsD x.1) /\ ((bif
  decide ((97 : Int) <= x.1) then decide (x.1 <= (122 : Int)) else false) = false -> (decide ((65 : Int) <= x.1) = true -> True) /\ (decide ((65 : Int) <= x.1) = true -> (decide ((65 : Int)
  <= x.1) == true) = true /\ True) /\ (decide ((65 : Int) <= x.1) = true -> (decide ((65 : Int) <= x.1) == true) = true) /\ ((q53 x) = true -> true = printsD x.1) /\ ((q53 x) = false ->
  (decide (q55 <= x.1) = true -> True) /\ (decide (q55 <= x.1) = true -> (decide (q55 <= x.1) == true) = true /\ True) /\ (decide (q55 <= x.1) = true -> (decide (q55 <= x.1) == true) = true)
  /\ ((bif decide (q55 <= x.1) then decide (x.1 <= (57 : Int)) else false) = true -> true = printsD x.1) /\ ((bif decide (q55 <= x.1) then decide (x.1 <= (57 : Int)) else false) = false ->
  (decide (x.1 ≠ q25) = true -> True) /\ (decide (x.1 ≠ q25) = true -> (decide (x.1 ≠ q25) == true) = true /\ True /\ (∀ (y : q1), (q21 y) -> y.1 = idxB (bs { data := #[(32 : UInt8), (39 :
  UInt8), (40 : UInt8), (41 : UInt8), (43 : UInt8), (44 : UInt8), (45 : UInt8), (46 : UInt8), (47 : UInt8), (58 : UInt8), (61 : UInt8), (63 : UInt8)] }) x.1 -> decide (q25 <= y.1) = printsD
  x.1) /\ True) /\ (decide (x.1 ≠ q25) = !true -> false = printsD x.1))))
theorem e134 : t134 = Con.vc c_text_prints GL (mkEnv ty [(170, conSem c_strings_IndexByte)] [] [] [0, 2, 3]) {} Tryd.f134.ntmps Tryd.f134.results.toList (bodyOf Tryd.f134) := by kernel_rfl
theorem k134 : t134 := by
  unfold t134
  delta q1 q54 q53 q55 q25 q21 q211 wiZ
  rintro ⟨c, _⟩ hx hp
  have hc : 0 ≤ c ∧ c ≤ 255 := by
    have h : InR .u8 c := hx.1
    simpa [InR, IntKind.min, IntKind.max, IntKind.signed, IntKind.bits] using h
  try dsimp +instances only [dft_int, dft_sl, dft_str]
  simp only [true_and, and_true, eq_self_iff_true, implies_true, reduceCtorEq, false_implies, true_implies, decide_eq_true_eq, decide_eq_false_iff_not, beq_self_eq_true, Bool.not_eq_true', ne_eq, Decidable.not_not, List.nil_append, List.length_singleton, List.length_cons, List.length_nil, Nat.zero_add, Nat.add_zero, Nat.mul_one, and_self, beq_iff_eq, Bool.not_true, Bool.not_false, Bool.not_eq_false', Bool.cond_false_right, Bool.and_eq_true, imp_self, Bool.not_eq_true, Bool.cond_true_left, Bool.or_eq_true]
  have key : ∀ c : Fin 256, decide (0 ≤ idxB (bs { data := #[32, 39, 40, 41, 43, 44, 45, 46, 47, 58, 61, 63] }) (c.val : Int)) = true → printsD (c.val : Int) = true := by decide +kernel
  have key2 : ∀ c : Fin 256, ((decide (97 ≤ (c.val : Int)) && decide ((c.val : Int) ≤ 122)) = false) → ((decide (65 ≤ (c.val : Int)) && decide ((c.val : Int) ≤ 90)) = false) → ((decide (48 ≤ (c.val : Int)) && decide ((c.val : Int) ≤ 57)) = false) → decide (0 ≤ idxB (bs { data := #[32, 39, 40, 41, 43, 44, 45, 46, 47, 58, 61, 63] }) (c.val : Int)) = printsD (c.val : Int) := by decide +kernel
  have k2 := key2 ⟨c.toNat, by omega⟩
  simp only [Int.toNat_of_nonneg hc.1] at k2
  refine ⟨fun h => by simp [printsD, h], fun h1 => ⟨fun h => by simp [printsD, h], fun h2 => ⟨fun h => by simp [printsD, h], fun h3 => ⟨fun h => ⟨h, fun y _ ey => by rw [ey]; exact k2 h1 h2 h3⟩, fun h => by subst h; decide⟩⟩⟩⟩
theorem h134 : c_text_prints.ok Tryd.prog GL 134 := con_ok (H := {}) (mkEnv_ok (gl := GL) (l := [(170, conSem c_strings_IndexByte)]) (q := []) (d := []) _ tyOk (by kernel_rfl) ⟨h170.call, trivial⟩ trivial trivial) (by kernel_rfl) (by kernel_rfl) (Eq.mp e134 k134)
def t90 : Prop :=
  ∀ (x : Int × List Int × Unit), (wiZ x.1 /\ wsZ x.2.1 /\ True) -> True -> (decide ((4096 : Int) < (lnZ x.2.1)) = true -> false = mayD x.1 x.2.1) /\ (decide ((4096 : Int) < (lnZ x.2.1)) =
  false -> (decide (x.1 = (12 : Int)) = true -> True /\ (∀ (y : q1), (q21 y) -> y.1 = (↑(vld x.2.1 q48) : Int) -> decide (y.1 = (lnZ x.2.1)) = mayD x.1 x.2.1) /\ True) /\ (decide (x.1 = (12 :
  Int)) = false -> (decide (x.1 = (19 : Int)) = true -> ∃ (I : q6), ∃ (μ : q7), ((lnZ x.2.1) = (lnZ x.2.1) /\ Value.bool true = Value.bool true /\ Value.bool false = Value.bool false /\ x.1 =
  x.1 /\ Value.bool false = Value.bool false /\ x.1 = x.1 /\ x.2.1 = x.2.1 /\ I (q25, false, ()) ()) /\ ∀ (y : q8) (z : Unit), (q56 y) -> True -> I y z -> (decide (y.1 < (lnZ x.2.1)) = true
  -> (q25 <= y.1 /\ y.1 < (lnZ x.2.1)) /\ True /\ (∀ (y_1 : q9), (q57 y_1) -> y_1.1 = printsD (List.getD x.2.1 (Int.toNat y.1) q25) -> ((!y_1.1) = true -> false = mayD x.1 x.2.1) /\ ((!y_1.1)
  = false -> (lnZ x.2.1) = (lnZ x.2.1) /\ Value.bool true = Value.bool true /\ Value.bool false = Value.bool false /\ x.1 = x.1 /\ Value.bool false = Value.bool false /\ x.1 = x.1 /\ x.2.1 =
  x.2.1 /\ I (wrZ (y.1 + q47), y.2.1, ()) () /\ μ (wrZ (y.1 + q47), y.2.1, ()) () < μ y z)) /\ True) /\ (decide (y.1 < (lnZ x.2.1)) = false -> true = mayD x.1 x.2.1)) /\ (decide (x.1 = (19 :
  Int)) = false -> (decide (x.1 = (22 : Int)) = true -> ∃ (I : q6), ∃ (μ : q7), ((lnZ x.2.1) = (lnZ x.2.1) /\ Value.bool true = Value.bool true /\ Value.bool false = Value.bool false /\
  Value.bool false = Value.bool false /\ x.1 = x.1 /\ Value.bool false = Value.bool false /\ x.1 = x.1 /\ x.2.1 = x.2.1 /\ I (q25, false, ()) ()) /\ ∀ (y : q8) (z : Unit), (q56 y) -> True ->
  I y z -> (decide (y.1 < (lnZ x.2.1)) = true -> (q25 <= y.1 /\ y.1 < (lnZ x.2.1)) /\ (decide (q166 <= List.getD x.2.1 (Int.toNat y.1) q25) = true -> false = mayD x.1 x.2.1) /\ (decide (q166
  <= List.getD x.2.1 (Int.toNat y.1) q25) = false -> (lnZ x.2.1) = (lnZ x.2.1) /\ Value.bool true = Value.bool true /\ Value.bool false = Value.bool false /\ Value.bool false = Value.bool
  false /\ x.1 = x.1 /\ Value.bool false = Value.bool false /\ x.1 = x.1 /\ x.2.1 = x.2.1 /\ I (wrZ (y.1 + q47), y.2.1, ()) () /\ μ (wrZ (y.1 + q47), y.2.1, ()) () < μ y z)) /\ (decide (y.1 <
  (lnZ x.2.1)) = false -> true = mayD x.1 x.2.1)) /\ (decide (x.1 = (22 : Int)) = false -> false = mayD x.1 x.2.1))))
theorem e90 : t90 = Con.vc c_text_May GL (mkEnv ty [(133, conSem c_text_Valid), (134, conSem c_text_prints)] [] [] [0, 1, 4, 5, 6, 9, 10, 11, 18, 21, 22, 23, 29, 31, 34, 35, 36, 41]) {} Tryd.f90.ntmps Tryd.f90.results.toList (bodyOf Tryd.f90) := by kernel_rfl
theorem k90 : t90 := by
  unfold t90
  delta wiZ wsZ lnZ q1 q21 q48 q6 q7 q25 q8 q56 q9 q57 wrZ q47 q166 wbZ
  rintro ⟨k, m, _⟩ hx hp
  try dsimp +instances only [dft_int, dft_sl, dft_str]
  simp only [true_and, and_true, eq_self_iff_true, implies_true, reduceCtorEq, false_implies, true_implies, decide_eq_true_eq, decide_eq_false_iff_not, beq_self_eq_true, Bool.not_eq_true', ne_eq, Decidable.not_not, List.nil_append, List.length_singleton, List.length_cons, List.length_nil, Nat.zero_add, Nat.add_zero, Nat.mul_one, and_self, beq_iff_eq, Bool.not_true, Bool.not_false, Bool.not_eq_false', Bool.cond_false_right, Bool.and_eq_true, imp_self, Bool.not_eq_true, Bool.cond_true_left, Bool.or_eq_true]
  refine ⟨fun h => by rw [mayD, if_pos (by omega)], fun hl => ⟨fun h => ?_, fun h12 => ⟨fun h19 => ?_, fun h19 => ⟨fun h22 => ?_, fun h22 => ?_⟩⟩⟩⟩
  . rintro ⟨a, _⟩ _ ea
    simp only at ea ⊢
    rw [mayD, if_neg (by omega), if_pos h, ea]
    exact decide_eq_decide.2 (by omega)
  . have hm : mayD k m = m.all printsD := by rw [mayD, if_neg (by omega), if_neg h12, if_pos h19]
    rw [hm]
    refine ⟨fun y _ => 0 ≤ y.1 ∧ y.1 ≤ m.length ∧ ∀ j, j < y.1.toNat → printsD (m.getD j 0) = true, fun y _ => ((m.length : Int) - y.1).toNat, ⟨by omega, by omega, fun j hj => by simp at hj⟩, ?_⟩
    rintro ⟨i, b, _⟩ z _ ⟨h0, h1, h2⟩
    simp only at h0 h1 h2 ⊢
    have hw : IntKind.wrap .i64 (i + 1) = i + 1 := wrapK _ (by omega) (by omega)
    rw [hw]
    refine ⟨fun hlt => ⟨⟨h0, hlt⟩, ?_⟩, fun hge => (all_get _ _ (fun j hj => h2 j (by omega))).symm⟩
    rintro ⟨a, _⟩ _ ea
    simp only at ea ⊢
    refine ⟨fun h => (all_not _ _ i.toNat (by omega) (by rw [← ea]; exact h)).symm, fun h => ⟨⟨by omega, by omega, fun j hj => ?_⟩, by omega⟩⟩
    by_cases hji : j < i.toNat
    . exact h2 j hji
    . rw [show j = i.toNat by omega, ← ea]; exact h
  . have hm : mayD k m = m.all (fun c => decide (c < 128)) := by rw [mayD, if_neg (by omega), if_neg h12, if_neg h19, if_pos h22]
    rw [hm]
    refine ⟨fun y _ => 0 ≤ y.1 ∧ y.1 ≤ m.length ∧ ∀ j, j < y.1.toNat → m.getD j 0 < 128, fun y _ => ((m.length : Int) - y.1).toNat, ⟨by omega, by omega, fun j hj => by simp at hj⟩, ?_⟩
    rintro ⟨i, b, _⟩ z _ ⟨h0, h1, h2⟩
    simp only at h0 h1 h2 ⊢
    have hw : IntKind.wrap .i64 (i + 1) = i + 1 := wrapK _ (by omega) (by omega)
    rw [hw]
    refine ⟨fun hlt => ⟨⟨h0, hlt⟩, fun h => (all_not _ _ i.toNat (by omega) (by simpa using h)).symm, fun h => ⟨⟨by omega, by omega, fun j hj => ?_⟩, by omega⟩⟩, fun hge => (all_get _ _ (fun j hj => by simpa using h2 j (by omega))).symm⟩
    by_cases hji : j < i.toNat
    . exact h2 j hji
    . rw [show j = i.toNat by omega]; omega
  . rw [mayD, if_neg (by omega), if_neg h12, if_neg h19, if_neg h22]
theorem h90 : c_text_May.ok Tryd.prog GL 90 := con_ok (H := {}) (mkEnv_ok (gl := GL) (l := [(133, conSem c_text_Valid), (134, conSem c_text_prints)]) (q := []) (d := []) _ tyOk (by kernel_rfl) ⟨h133.call, h134.call, trivial⟩ trivial trivial) (by kernel_rfl) (by kernel_rfl) (Eq.mp e90 k90)
def t36 : Prop :=
  ∀ (x : q4), (q45 x) -> True -> True /\ (∀ (y : q9), (q57 y) -> y.1 = mayD (19 : Int) x.1 -> (y.1 = true -> (19 : Int) = (kindD x.1).1 /\ q25 = (kindD x.1).2) /\ (y.1 = false -> True /\ (∀
  (y : q9), (q57 y) -> y.1 = mayD (12 : Int) x.1 -> (y.1 = true -> (12 : Int) = (kindD x.1).1 /\ q25 = (kindD x.1).2) /\ (y.1 = false -> q25 = (kindD x.1).1 /\ (50 : Int) = (kindD x.1).2)) /\
  True)) /\ True
theorem e36 : t36 = Con.vc c_text_Kind GL (mkEnv ty [(90, conSem c_text_May)] [] [] [0, 2, 3, 4, 7]) {} Tryd.f36.ntmps Tryd.f36.results.toList (bodyOf Tryd.f36) := by kernel_rfl
theorem k36 : t36 := by
  unfold t36
  delta q4 q45 q9 q57 q25 wsZ wbZ
  rintro ⟨l, _⟩ hx hp
  try dsimp +instances only [dft_int, dft_sl, dft_str]
  simp only [true_and, and_true, eq_self_iff_true, implies_true, reduceCtorEq, false_implies, true_implies, decide_eq_true_eq, decide_eq_false_iff_not, beq_self_eq_true, Bool.not_eq_true', ne_eq, Decidable.not_not, List.nil_append, List.length_singleton, List.length_cons, List.length_nil, Nat.zero_add, Nat.add_zero, Nat.mul_one, and_self, beq_iff_eq, Bool.not_true, Bool.not_false, Bool.not_eq_false', Bool.cond_false_right, Bool.and_eq_true, imp_self, Bool.not_eq_true, Bool.cond_true_left, Bool.or_eq_true]
  rintro ⟨a, _⟩ _ ea
  simp only at ea ⊢
  refine ⟨fun h => by rw [kindD, if_pos (by rw [← ea]; exact h)]; exact ⟨rfl, rfl⟩, fun h => ?_⟩
  rintro ⟨b, _⟩ _ eb
  simp only at eb ⊢
  refine ⟨fun h2 => ?_, fun h2 => ?_⟩
  . rw [kindD, if_neg (by rw [← ea, h]; decide), if_pos (by rw [← eb]; exact h2)]; exact ⟨rfl, rfl⟩
  . rw [kindD, if_neg (by rw [← ea, h]; decide), if_neg (by rw [← eb, h2]; decide)]; exact ⟨rfl, rfl⟩
theorem h36 : c_text_Kind.ok Tryd.prog GL 36 := con_ok (H := {}) (mkEnv_ok (gl := GL) (l := [(90, conSem c_text_May)]) (q := []) (d := []) _ tyOk (by kernel_rfl) ⟨h90.call, trivial⟩ trivial trivial) (by kernel_rfl) (by kernel_rfl) (Eq.mp e36 k36)
noncomputable def i195 : CallSem → CallSem := vcSeq (mkEnv ty [(170, conSem c_strings_IndexByte)] [] [] [0, 1, 3, 4, 8, 14, 31]) {joins := [5]} Tryd.f195.ntmps Tryd.f195.results.toList (bodyOf Tryd.f195)
theorem i195_ok : SeqOk Tryd.prog GL 195 i195 := seq_ok {joins := [5]} (mkEnv_ok (gl := GL) (l := [(170, conSem c_strings_IndexByte)]) (q := []) (d := []) _ tyOk (by kernel_rfl) ⟨h170.call, trivial⟩ trivial trivial) (by kernel_rfl) (by kernel_rfl)
noncomputable def i178 : CallSem := vcFn (mkEnv ty [] [] [] [0, 1, 2]) {} Tryd.f178.ntmps Tryd.f178.results.toList (bodyOf Tryd.f178)
theorem i178_ok : CallOk Tryd.prog GL 178 i178 := inl_ok {} (mkEnv_ok (gl := GL) (l := []) (q := []) (d := []) _ tyOk (by kernel_rfl) trivial trivial trivial) (by kernel_rfl) (by kernel_rfl)
def t147 : Prop :=
  ∀ (x : q4), (q45 x) -> List.length x.1 <= q65 -> q24 <= q46 /\ List.length [SV.dat Kd.str x.1] <= q46 /\ ∃ (I : q10), ∃ (μ : q11), (bs { data := #[] } = bs { data := #[] } /\ x.1 = x.1 /\ I
  (q25, ()) ((), (x.1, ()), [], ())) /\ ∀ (y : q1) (z : q12), (q21 y) -> True /\ (wsZ z.2.1.1 /\ True) /\ (wyZ z.2.2.1 /\ True) -> I y z -> (decide (y.1 < (lnZ z.2.1.1)) = true -> (q25 <= y.1
  /\ y.1 <= (lnZ z.2.1.1)) /\ True /\ (∀ (y_1 : q1), (q21 y_1) -> y_1.1 = idxB (List.drop (q23 y) z.2.1.1) (32 : Int) -> ∃ (J : Int × Unit -> Unit × Unit × Unit -> Prop), ((decide (y_1.1 <
  q25) = true -> Value.bool true = Value.bool true /\ y.1 = y.1 /\ z.2.1.1 = z.2.1.1 /\ z.2.2.1 = z.2.2.1 /\ bs { data := #[] } = bs { data := #[] } /\ x.1 = x.1 /\ J (wrZ ((lnZ z.2.1.1) -
  y.1), ()) ((), (), ())) /\ (decide (y_1.1 < q25) = false -> Value.bool true = Value.bool true /\ y.1 = y.1 /\ z.2.1.1 = z.2.1.1 /\ z.2.2.1 = z.2.2.1 /\ bs { data := #[] } = bs { data := #[]
  } /\ x.1 = x.1 /\ J (y_1.1, ()) ((), (), ()))) /\ ∀ (u : q1) (z_1 : Unit × Unit × Unit), (q21 u) -> True /\ True /\ True -> J u z_1 -> (q61 u) /\ (q61 u) /\ (q61 u) /\ (q61 u) /\ (q61 u) /\
  (decide (q66 u) = true -> (q62 u) = true /\ (q62 u) = true /\ True) /\ (decide (q66 u) = true -> (q62 u) = true /\ (q62 u) = true /\ (q62 u) = true /\ (q25 <= y.1 /\ y.1 <= wrZ (y.1 + u.1)
  /\ wrZ (y.1 + u.1) <= (lnZ z.2.1.1)) /\ True) /\ (decide (q66 u) = true -> (q62 u) = true /\ (q62 u) = true /\ ∃ (J : Unit -> Unit × (List Int × Unit) × List Int × Unit -> Prop), ((decide
  (q25 < (lnZ z.2.2.1)) = true -> q48 < q24 /\ (List.length z.2.2.1 + q24) * q24 <= q64 /\ List.length z.2.2.1 + q24 <= q63 /\ List.drop (q23 y) (q60 y u z) = List.drop (q23 y) (q60 y u z) /\
  List.drop (q23 y) (q60 y u z) = List.drop (q23 y) (q60 y u z) /\ bs { data := #[] } = bs { data := #[] } /\ x.1 = x.1 /\ List.drop (q23 y) (q60 y u z) = List.drop (q23 y) (q60 y u z) /\
  Value.bool true = Value.bool true /\ decide (q66 u) = decide (q66 u) /\ u.1 = u.1 /\ u.1 = u.1 /\ Value.bool true = Value.bool true /\ y.1 = y.1 /\ bs { data := #[] } = bs { data := #[] }
  /\ x.1 = x.1 /\ J () ((), (z.2.1.1, ()), z.2.2.1 ++ [(32 : Int)], ())) /\ (decide (q25 < (lnZ z.2.2.1)) = false -> List.drop (q23 y) (q60 y u z) = List.drop (q23 y) (q60 y u z) /\ List.drop
  (q23 y) (q60 y u z) = List.drop (q23 y) (q60 y u z) /\ bs { data := #[] } = bs { data := #[] } /\ x.1 = x.1 /\ List.drop (q23 y) (q60 y u z) = List.drop (q23 y) (q60 y u z) /\ Value.bool
  true = Value.bool true /\ decide (q66 u) = decide (q66 u) /\ u.1 = u.1 /\ u.1 = u.1 /\ Value.bool true = Value.bool true /\ y.1 = y.1 /\ bs { data := #[] } = bs { data := #[] } /\ x.1 = x.1
  /\ J () ((), (z.2.1.1, ()), z.2.2.1, ()))) /\ ∀ (u_1 : Unit) (z_2 : q12), True -> True /\ (wsZ z_2.2.1.1 /\ True) /\ (wyZ z_2.2.2.1 /\ True) -> J u_1 z_2 -> ∃ (I_1 : q10), ∃ (μ_1 : q11),
  ((q59 y u z) = (q59 y u z) /\ List.drop (q23 y) (q60 y u z) = List.drop (q23 y) (q60 y u z) /\ List.drop (q23 y) (q60 y u z) = List.drop (q23 y) (q60 y u z) /\ bs { data := #[] } = bs {
  data := #[] } /\ x.1 = x.1 /\ List.drop (q23 y) (q60 y u z) = List.drop (q23 y) (q60 y u z) /\ Value.bool true = Value.bool true /\ decide (q66 u) = decide (q66 u) /\ u.1 = u.1 /\ u.1 = u.1
  /\ Value.bool true = Value.bool true /\ y.1 = y.1 /\ bs { data := #[] } = bs { data := #[] } /\ x.1 = x.1 /\ I_1 (q25, ()) ((), (z_2.2.1.1, ()), z_2.2.2.1, ())) /\ ∀ (y_2 : q1) (z_3 : q12),
  (q21 y_2) -> True /\ (wsZ z_3.2.1.1 /\ True) /\ (wyZ z_3.2.2.1 /\ True) -> I_1 y_2 z_3 -> (decide (y_2.1 < (q59 y u z)) = true -> (((q25 <= y_2.1 /\ y_2.1 < (q59 y u z)) /\ (True /\ (∀ (y_3
  : q1), (q54 y_3) -> y_3.1 = smallD (q58 y u z y_2) -> ((q48 < q24 /\ (List.length z_3.2.2.1 + List.length [y_3.1]) * q24 <= q64 /\ List.length z_3.2.2.1 + List.length [y_3.1] <= q63 /\
  ((q59 y u z) = (q59 y u z) /\ List.drop (q23 y) (q60 y u z) = List.drop (q23 y) (q60 y u z) /\ List.drop (q23 y) (q60 y u z) = List.drop (q23 y) (q60 y u z) /\ bs { data := #[] } = bs {
  data := #[] } /\ x.1 = x.1 /\ List.drop (q23 y) (q60 y u z) = List.drop (q23 y) (q60 y u z) /\ Value.bool true = Value.bool true /\ decide (q66 u) = decide (q66 u) /\ u.1 = u.1 /\ u.1 = u.1
  /\ Value.bool true = Value.bool true /\ y.1 = y.1 /\ bs { data := #[] } = bs { data := #[] } /\ x.1 = x.1 /\ I_1 (wrZ (q167 y_2), ()) ((), (z_3.2.1.1, ()), z_3.2.2.1 ++ [y_3.1], ()) /\ μ_1
  (wrZ (q167 y_2), ()) ((), (z_3.2.1.1, ()), z_3.2.2.1 ++ [y_3.1], ()) < μ_1 y_2 z_3) /\ True) /\ True) /\ True) /\ True) /\ True) /\ True) /\ ((q25 <= y_2.1 /\ y_2.1 < (q59 y u z)) /\ ((True
  /\ (∀ (y_3 : q1), (q54 y_3) -> y_3.1 = smallD (q58 y u z y_2) -> ((q48 < q24 /\ (List.length z_3.2.2.1 + List.length [y_3.1]) * q24 <= q64 /\ List.length z_3.2.2.1 + List.length [y_3.1] <=
  q63 /\ ((q59 y u z) = (q59 y u z) /\ List.drop (q23 y) (q60 y u z) = List.drop (q23 y) (q60 y u z) /\ List.drop (q23 y) (q60 y u z) = List.drop (q23 y) (q60 y u z) /\ bs { data := #[] } =
  bs { data := #[] } /\ x.1 = x.1 /\ List.drop (q23 y) (q60 y u z) = List.drop (q23 y) (q60 y u z) /\ Value.bool true = Value.bool true /\ decide (q66 u) = decide (q66 u) /\ u.1 = u.1 /\ u.1
  = u.1 /\ Value.bool true = Value.bool true /\ y.1 = y.1 /\ bs { data := #[] } = bs { data := #[] } /\ x.1 = x.1 /\ I_1 (wrZ (q167 y_2), ()) ((), (z_3.2.1.1, ()), z_3.2.2.1 ++ [y_3.1], ())
  /\ μ_1 (wrZ (q167 y_2), ()) ((), (z_3.2.1.1, ()), z_3.2.2.1 ++ [y_3.1], ()) < μ_1 y_2 z_3) /\ True) /\ True) /\ True) /\ True) /\ True) /\ (True /\ (∀ (y_3 : q1), (q54 y_3) -> y_3.1 =
  smallD (q58 y u z y_2) -> (((q48 < q24 /\ (List.length z_3.2.2.1 + List.length [y_3.1]) * q24 <= q64 /\ List.length z_3.2.2.1 + List.length [y_3.1] <= q63 /\ ((q59 y u z) = (q59 y u z) /\
  List.drop (q23 y) (q60 y u z) = List.drop (q23 y) (q60 y u z) /\ List.drop (q23 y) (q60 y u z) = List.drop (q23 y) (q60 y u z) /\ bs { data := #[] } = bs { data := #[] } /\ x.1 = x.1 /\
  List.drop (q23 y) (q60 y u z) = List.drop (q23 y) (q60 y u z) /\ Value.bool true = Value.bool true /\ decide (q66 u) = decide (q66 u) /\ u.1 = u.1 /\ u.1 = u.1 /\ Value.bool true =
  Value.bool true /\ y.1 = y.1 /\ bs { data := #[] } = bs { data := #[] } /\ x.1 = x.1 /\ I_1 (wrZ (q167 y_2), ()) ((), (z_3.2.1.1, ()), z_3.2.2.1 ++ [y_3.1], ()) /\ μ_1 (wrZ (q167 y_2), ())
  ((), (z_3.2.1.1, ()), z_3.2.2.1 ++ [y_3.1], ()) < μ_1 y_2 z_3) /\ True) /\ True) /\ True) /\ (((q48 < q24 /\ (List.length z_3.2.2.1 + List.length [y_3.1]) * q24 <= q64 /\ List.length
  z_3.2.2.1 + List.length [y_3.1] <= q63 /\ ((q59 y u z) = (q59 y u z) /\ List.drop (q23 y) (q60 y u z) = List.drop (q23 y) (q60 y u z) /\ List.drop (q23 y) (q60 y u z) = List.drop (q23 y)
  (q60 y u z) /\ bs { data := #[] } = bs { data := #[] } /\ x.1 = x.1 /\ List.drop (q23 y) (q60 y u z) = List.drop (q23 y) (q60 y u z) /\ Value.bool true = Value.bool true /\ decide (q66 u) =
  decide (q66 u) /\ u.1 = u.1 /\ u.1 = u.1 /\ Value.bool true = Value.bool true /\ y.1 = y.1 /\ bs { data := #[] } = bs { data := #[] } /\ x.1 = x.1 /\ I_1 (wrZ (q167 y_2), ()) ((),
  (z_3.2.1.1, ()), z_3.2.2.1 ++ [y_3.1], ()) /\ μ_1 (wrZ (q167 y_2), ()) ((), (z_3.2.1.1, ()), z_3.2.2.1 ++ [y_3.1], ()) < μ_1 y_2 z_3) /\ True) /\ True) /\ True) /\ True) /\ True) /\ True)
  /\ True) /\ (decide (y_2.1 < (q59 y u z)) = false -> bs { data := #[] } = bs { data := #[] } /\ x.1 = x.1 /\ I (wrZ (y.1 + wrZ (q167 u)), ()) ((), (z_3.2.1.1, ()), z_3.2.2.1, ()) /\ μ (wrZ
  (y.1 + wrZ (q167 u)), ()) ((), (z_3.2.1.1, ()), z_3.2.2.1, ()) < μ y z)) /\ (decide (q66 u) = !true -> bs { data := #[] } = bs { data := #[] } /\ x.1 = x.1 /\ I (wrZ (y.1 + wrZ (q167 u)),
  ()) ((), (z.2.1.1, ()), z.2.2.1, ()) /\ μ (wrZ (y.1 + wrZ (q167 u)), ()) ((), (z.2.1.1, ()), z.2.2.1, ()) < μ y z)) /\ True) /\ (decide (y.1 < (lnZ z.2.1.1)) = false -> z.2.2.1 = foldD x.1)
theorem e147 : t147 = Con.vc c_text_Fold GL (mkEnv ty [(178, i178), (179, conSem c_text_small)] [(195, i195)] [] [0, 2, 3, 4, 5, 7, 8, 11, 16, 17, 18]) {joins := [6]} Tryd.f147.ntmps Tryd.f147.results.toList (bodyOf Tryd.f147) := by kernel_rfl
theorem k147 : t147 := by
  unfold t147
  delta q4 q45 q65 q24 q46 q10 q11 q25 q1 q12 q21 wsZ wyZ lnZ q23 wrZ q61 q66 q62 q48 q64 q63 q60 q59 q54 q58 q167 wiZ q172 q211
  rintro ⟨l, _⟩ hx hp
  have hw : Kd.wf Kd.str l := hx.1
  have hp : l.length ≤ 100000000 := hp
  try dsimp +instances only [dft_int, dft_sl, dft_str]
  simp only [true_and, and_true, eq_self_iff_true, implies_true, reduceCtorEq, false_implies, true_implies, decide_eq_true_eq, decide_eq_false_iff_not, beq_self_eq_true, Bool.not_eq_true', ne_eq, Decidable.not_not, List.nil_append, List.length_singleton, List.length_cons, List.length_nil, Nat.zero_add, Nat.add_zero, Nat.mul_one, and_self, beq_iff_eq, Bool.not_true, Bool.not_false, Bool.not_eq_false', Bool.cond_false_right, Bool.and_eq_true, imp_self, Bool.not_eq_true, Bool.cond_true_left, Bool.or_eq_true]
  refine ⟨by decide, by decide, fun y z => 0 ≤ y.1 ∧ y.1 ≤ l.length + 1 ∧ z.2.1.1 = l ∧ (z.2.2.1.length : Int) ≤ 2 * y.1 ∧ foldD l = joinF z.2.2.1 (wordsA [] (l.drop y.1.toNat)), fun y _ => ((l.length : Int) + 1 - y.1).toNat, ⟨by decide, by omega, rfl, by simp, rfl⟩, ?_⟩
  rintro ⟨i, _⟩ ⟨_, ⟨m, _⟩, b, _⟩ _ _ ⟨h0, h1, h2, h3, h4⟩
  simp only at h0 h1 h2 h3 h4 ⊢
  subst h2
  refine ⟨fun hlt => ⟨⟨h0, by omega⟩, ?_⟩, fun hge => ?_⟩
  rotate_left
  . rw [h4, List.drop_of_length_le (by omega), words_end]; rfl
  rintro ⟨k, _⟩ _ ek
  simp only at ek ⊢
  have hdl : (m.drop i.toNat).length = m.length - i.toNat := by simp
  refine ⟨fun u _ => idxB (m.drop i.toNat) 32 < 0 ∧ u.1 = (m.drop i.toNat).length ∨ 0 ≤ idxB (m.drop i.toNat) 32 ∧ u.1 = idxB (m.drop i.toNat) 32, ⟨fun h => .inl ⟨by omega, ?_⟩, fun h => .inr ⟨by omega, ek⟩⟩, ?_⟩
  . rw [hdl]
    have : IntKind.wrap .i64 ((m.length : Int) - i) = m.length - i := wrapK _ (by omega) (by omega)
    rw [this]; omega
  rintro ⟨n, _⟩ _ _ hJ
  obtain ⟨n0, n1, n2⟩ := idx_split hJ
  clear hJ
  simp only at n0 n1 n2 ⊢
  rw [hdl] at n1
  have e1 : IntKind.wrap .i64 (n + 1) = n + 1 := wrapK _ (by omega) (by omega)
  have e2 : IntKind.wrap .i64 (i + (n + 1)) = i + (n + 1) := wrapK _ (by omega) (by omega)
  have e3 : IntKind.wrap .i64 (i + n) = i + n := wrapK _ (by omega) (by omega)
  rw [e1, e2, e3]
  have e4 : (i + (n + 1)).toNat = i.toNat + (n.toNat + 1) := by omega
  have e5 : (i + n).toNat = i.toNat + n.toNat := by omega
  rw [List.drop_drop, ← e4] at n2
  refine ⟨fun h => ⟨h, h, h, h0, by omega, by omega⟩, fun h => ⟨h, h, ?_⟩, fun h => ⟨⟨by omega, by omega, trivial, by omega, ?_⟩, by omega⟩⟩
  rotate_left
  . rw [h4, n2, if_pos (by omega), List.nil_append]
  rw [if_neg (by omega)] at n2
  have ew : (m.take (i + n).toNat).drop i.toNat = (m.drop i.toNat).take n.toNat := by rw [e5, List.drop_take, Nat.add_sub_cancel_left]
  rw [ew]
  have hwl : ((m.drop i.toNat).take n.toNat).length = n.toNat := by rw [List.length_take, hdl]; omega
  generalize (m.drop i.toNat).take n.toNat = w at n2 hwl ⊢
  refine ⟨fun _ z => z.2.1.1 = m ∧ z.2.2.1 = b ++ (if b = [] then [] else [32]), ⟨fun hb => ⟨by decide, by omega, by omega, rfl, ?_⟩, fun hb => ⟨rfl, ?_⟩⟩, ?_⟩
  . rw [if_neg (fun e => by rw [e] at hb; simp at hb)]
  . have : b = [] := List.eq_nil_of_length_eq_zero (by omega)
    subst this; rfl
  rintro _ ⟨_, ⟨m2, _⟩, c, _⟩ _ ⟨em, ec⟩
  simp only at em ec ⊢
  subst em
  have hcl : (c.length : Int) ≤ 2 * i + 1 := by
    rw [ec, List.length_append]
    split <;> simp <;> omega
  refine ⟨fun y z => 0 ≤ y.1 ∧ y.1 ≤ w.length ∧ z.2.1.1 = m2 ∧ z.2.2.1 = c ++ (w.take y.1.toNat).map smallD, fun y _ => ((w.length : Int) - y.1).toNat, ⟨by decide, by omega, rfl, by simp⟩, ?_⟩
  rintro ⟨j, _⟩ ⟨_, ⟨m3, _⟩, d, _⟩ _ _ ⟨j0, j1, em3, ed⟩
  simp only at j0 j1 em3 ed ⊢
  subst em3
  have hdl : (d.length : Int) = c.length + j := by
    rw [ed, List.length_append, List.length_map, List.length_take]
    omega
  refine ⟨fun hlt => ⟨⟨j0, hlt⟩, ?_⟩, fun hge => ⟨⟨by omega, by omega, rfl, by omega, ?_⟩, by omega⟩⟩
  . rintro ⟨s, _⟩ _ es
    simp only at es ⊢
    have e6 : IntKind.wrap .i64 (j + 1) = j + 1 := wrapK _ (by omega) (by omega)
    rw [e6]
    refine ⟨by decide, by omega, by omega, ⟨by omega, by omega, trivial, ?_⟩, by omega⟩
    rw [show (j + 1).toNat = j.toNat + 1 by omega, take_snoc w j.toNat (by omega), List.map_append, ed, es, List.append_assoc]
    rfl
  . rw [h4, n2, List.singleton_append, joinF, ed, ec, List.take_of_length_le (by omega)]
theorem h147 : c_text_Fold.ok Tryd.prog GL 147 := con_ok (H := {joins := [6]}) (mkEnv_ok (gl := GL) (l := [(178, i178), (179, conSem c_text_small)]) (q := [(195, i195)]) (d := []) _ tyOk (by kernel_rfl) ⟨i178_ok, h179.call, trivial⟩ ⟨i195_ok, trivial⟩ trivial) (by kernel_rfl) (by kernel_rfl) (Eq.mp e147 k147)
def t107 : Prop :=
  ∀ (x : q2), (wsZ x.1 /\ wsZ x.2.1 /\ True) -> List.length x.1 <= q65 /\ List.length x.2.1 <= q65 -> List.length x.1 <= q65 /\ (∀ (y : q4), (q45 y) -> y.1 = foldD x.1 -> List.length x.2.1 <=
  q65 /\ (∀ (y_1 : q4), (q45 y_1) -> y_1.1 = foldD x.2.1 -> decide (y.1 = y_1.1) = decide (foldD x.1 = foldD x.2.1)) /\ True) /\ True
theorem e107 : t107 = Con.vc c_text_Same GL (mkEnv ty [(147, conSem c_text_Fold)] [] [] [0, 1, 4]) {} Tryd.f107.ntmps Tryd.f107.results.toList (bodyOf Tryd.f107) := by kernel_rfl
theorem k107 : t107 := by
  unfold t107
  delta q2 wsZ q65 q4 q45
  rintro ⟨l, m, _⟩ hx ⟨h1, h2⟩
  try dsimp +instances only [dft_int, dft_sl, dft_str]
  simp only [true_and, and_true, eq_self_iff_true, implies_true, reduceCtorEq, false_implies, true_implies, decide_eq_true_eq, decide_eq_false_iff_not, beq_self_eq_true, Bool.not_eq_true', ne_eq, Decidable.not_not, List.nil_append, List.length_singleton, List.length_cons, List.length_nil, Nat.zero_add, Nat.add_zero, Nat.mul_one, and_self, beq_iff_eq, Bool.not_true, Bool.not_false, Bool.not_eq_false', Bool.cond_false_right, Bool.and_eq_true, imp_self, Bool.not_eq_true, Bool.cond_true_left, Bool.or_eq_true]
  refine ⟨h1, ?_⟩
  rintro ⟨a, _⟩ _ ea
  refine ⟨h2, ?_⟩
  rintro ⟨b, _⟩ _ eb
  simp only at ea eb ⊢
  subst ea eb
  rfl
theorem h107 : c_text_Same.ok Tryd.prog GL 107 := con_ok (H := {}) (mkEnv_ok (gl := GL) (l := [(147, conSem c_text_Fold)]) (q := []) (d := []) _ tyOk (by kernel_rfl) ⟨h147.call, trivial⟩ trivial trivial) (by kernel_rfl) (by kernel_rfl) (Eq.mp e107 k107)
end Go.Proofs.YtbdfeddakniaeaaDoor
end
