/- Texts of a verified walk, led together: QGl12A, QGl12W, QStrsA, QStrsW. -/
import Derived.Test.YtbdfeddakniaeaaDoorZV05
import Derived.Test.YtbdfeddakniaeaaDoorZTy
import Derived.Test.YtbdfeddakniaeaaDoorZV06
import Derived.Test.YtbdfeddakniaeaaDoorZShelf
set_option linter.unusedVariables false
set_option linter.unusedSimpArgs false
section
namespace Go.Proofs.YtbdfeddakniaeaaDoor
open Go Go.Vc Go.Pl Go.Proofs
def GL : Gl := [(1, .arr U8 Lib.firstTab), (2, .arr (.pair U8 U8) accTab), (0, .num .i64)]
end Go.Proofs.YtbdfeddakniaeaaDoor
end
section
namespace Go.Proofs.YtbdfeddakniaeaaDoor
open Go Go.Vc Go.Pl Go.Proofs
end Go.Proofs.YtbdfeddakniaeaaDoor
end
section
namespace Go.Proofs.YtbdfeddakniaeaaDoor
open Go Go.Vc Go.Pl Go.Proofs
def c_stringslite_Index : Con := { args := [Kd.str, Kd.str].map .dat, res := [I64].map .dat, pre := fun x => x.1.length < 4294967281, post := fun x y => y.1 = idxS x.1 x.2.1 }
def c_strings_Index : Con := { args := [.dat .str, .dat .str], res := [.dat I64], pre := fun x => x.1.length < 4294967281, post := fun x y => y.1 = idxS x.1 x.2.1 }
def c_strings_Contains : Con := { args := [.dat .str, .dat .str], res := [.dat .bool], pre := fun x => x.1.length < 4294967281, post := fun x y => y.1 = decide (0 ≤ idxS x.1 x.2.1) }
def c_stringslite_Cut : Con := { args := [.dat .str, .dat .str], res := [.dat .str, .dat .str, .dat .bool], pre := fun x => x.1.length < 4294967281 ∧ x.2.1.length = 1, post := fun x y => y.1 = (cutD (x.2.1.getD 0 0) x.1).1 ∧ y.2.1 = (cutD (x.2.1.getD 0 0) x.1).2.1 ∧ y.2.2.1 = (cutD (x.2.1.getD 0 0) x.1).2.2 }
def c_strings_Cut : Con := { args := [.dat .str, .dat .str], res := [.dat .str, .dat .str, .dat .bool], pre := fun x => x.1.length < 4294967281 ∧ x.2.1.length = 1, post := fun x y => y.1 = (cutD (x.2.1.getD 0 0) x.1).1 ∧ y.2.1 = (cutD (x.2.1.getD 0 0) x.1).2.1 ∧ y.2.2.1 = (cutD (x.2.1.getD 0 0) x.1).2.2 }
def c_stringslite_HasPrefix : Con := { args := [.dat .str, .dat .str], res := [.dat .bool], pre := fun _ => True, post := fun x y => y.1 = hasP x.2.1 x.1 }
def c_stringslite_CutPrefix : Con := { args := [.dat .str, .dat .str], res := [.dat .str, .dat .bool], pre := fun _ => True, post := fun x y => y.1 = (if hasP x.2.1 x.1 then x.1.drop x.2.1.length else x.1) ∧ y.2.1 = hasP x.2.1 x.1 }
def c_strings_CutPrefix : Con := { args := [.dat .str, .dat .str], res := [.dat .str, .dat .bool], pre := fun _ => True, post := fun x y => y.1 = (if hasP x.2.1 x.1 then x.1.drop x.2.1.length else x.1) ∧ y.2.1 = hasP x.2.1 x.1 }
end Go.Proofs.YtbdfeddakniaeaaDoor
end
section
namespace Go.Proofs.YtbdfeddakniaeaaDoor
open Go Go.Vc Go.Pl Go.Proofs
set_option linter.unusedVariables false
set_option linter.unusedSimpArgs false
abbrev wrZ (x : Int) : Int := IntKind.wrap IntKind.i64 x
abbrev wiZ (x : Int) : Prop := Kd.wf (Kd.int IntKind.i64) x
abbrev wsZ (x : List Int) : Prop := Kd.wf Kd.str x
abbrev wbZ (x : Bool) : Prop := Kd.wf Kd.bool x
abbrev lnZ {α : Type} (x : List α) : Int := (↑(List.length x) : Int)
abbrev q0 := (List Int × List Int × Unit)
abbrev q1 := (List Int × List Int × Bool × Unit)
abbrev q2 := (Bool × Unit)
abbrev q5 (p0 : q0) := (wsZ p0.1 /\ wsZ p0.2.1 /\ True)
abbrev q6 := (4294967281 : Nat)
abbrev q7 := (0 : Int)
abbrev q8 (p0 : q0) := (cutD (List.getD p0.2.1 (0 : Nat) (0 : Int)) p0.1)
abbrev q35 (p0 : q0) := ((lnZ p0.2.1) <= (lnZ p0.1))
abbrev q9 (p0 : q0) := (decide (q35 p0) = true -> (decide (q35 p0) == true) = true /\ (decide (q35 p0) == true) = true /\ True)
abbrev q10 (p0 : q0) := (decide (q35 p0) = true -> (decide (q35 p0) == true) = true /\ True)
abbrev q11 (p0 : q0) := (decide (q35 p0) = true -> True)
abbrev q12 (p0 : q0) := (decide (q35 p0) == true)
abbrev q13 (p0 : q2) := (wbZ p0.1 /\ True)
theorem h146 : c_stringslite_Index.ok Tryd.prog GL 146 := by
  refine lib_ok (ks := [Kd.str, Kd.str]) (rs := [I64]) Tryd.func146 (by kernel_rfl) (by decide) ?_
  rintro w F ⟨l, m, u⟩ vs h hg hp
  obtain ⟨v1, r1, rfl, h1, v2, r2, rfl, h2, rfl⟩ := h
  obtain ⟨s, rfl, rfl, hs⟩ := VRep_str.1 h1
  obtain ⟨t, rfl, rfl, ht⟩ := VRep_str.1 h2
  obtain ⟨_, _, k, hk⟩ := hg 0 (.num .i64) rfl
  have hp : (bs s).length < 4294967281 := hp
  rw [bs_length] at hp
  refine Calls.mono (Tryd.stringslite_Index s t k w hp hk) ?_
  rintro e w' ⟨rfl, rfl⟩
  have hb : ∀ s : ByteArray, Bys (bs s) := bs_range
  have e1 : Lib.index s.data.toList t.data.toList = idxS (bs s) (bs t) := by
    rw [← u8s_bs s, ← u8s_bs t, idxS_lib _ _ (hb s) (hb t)]
  rw [e1]
  have h1 := idxS_ge (bs s) (bs t)
  rw [bs_length] at h1
  refine ⟨Kept.refl _ _, [_], (idxS (bs s) (bs t), ()), rfl, rfl, _, [], rfl, VRep_int.2 ⟨rfl, ?_⟩, rfl⟩
  generalize idxS (bs s) (bs t) = r at h1 ⊢
  simp [InR, IntKind.min, IntKind.max, IntKind.signed, IntKind.bits]
  omega
def t154 : Prop :=
  ∀ (x : q0), (q5 x) -> List.length x.1 < q6 -> List.length x.1 < q6 /\ (∀ (y : Int × Unit), (wiZ y.1 /\ True) -> y.1 = idxS x.1 x.2.1 -> y.1 = idxS x.1 x.2.1) /\ True
theorem e154 : t154 = Con.vc c_strings_Index GL (mkEnv ty [(146, conSem c_stringslite_Index)] [] [] [0, 1, 4]) {} Tryd.f154.ntmps Tryd.f154.results.toList (bodyOf Tryd.f154) := by kernel_rfl
theorem k154 : t154 := by
  unfold t154
  delta q0 q5 q6 wiZ wsZ
  rintro ⟨l, c, _⟩ hx hp
  try dsimp +instances only [dft_int, dft_sl, dft_str]
  simp only [true_and, and_true, eq_self_iff_true, implies_true, reduceCtorEq, false_implies, true_implies, decide_eq_true_eq, decide_eq_false_iff_not, beq_self_eq_true, Bool.not_eq_true', ne_eq, Decidable.not_not, List.nil_append, List.length_singleton, List.length_cons, List.length_nil, Nat.zero_add, Nat.add_zero, Nat.mul_one, and_self, beq_iff_eq, Bool.not_true, Bool.not_false, Bool.not_eq_false', Bool.cond_false_right, Bool.and_eq_true, imp_self, Bool.not_eq_true, Bool.cond_true_left, Bool.or_eq_true]
  exact hp
theorem h154 : c_strings_Index.ok Tryd.prog GL 154 := con_ok (H := {}) (mkEnv_ok (gl := GL) (l := [(146, conSem c_stringslite_Index)]) (q := []) (d := []) _ tyOk (by kernel_rfl) ⟨h146.call, trivial⟩ trivial trivial) (by kernel_rfl) (by kernel_rfl) (Eq.mp e154 k154)
def t115 : Prop :=
  ∀ (x : q0), (q5 x) -> List.length x.1 < q6 -> List.length x.1 < q6 /\ (∀ (y : Int × Unit), (wiZ y.1 /\ True) -> y.1 = idxS x.1 x.2.1 -> decide (q7 <= y.1) = decide (q7 <= idxS x.1 x.2.1))
  /\ True
theorem e115 : t115 = Con.vc c_strings_Contains GL (mkEnv ty [(154, conSem c_strings_Index)] [] [] [0, 1, 4]) {} Tryd.f115.ntmps Tryd.f115.results.toList (bodyOf Tryd.f115) := by kernel_rfl
theorem k115 : t115 := by
  unfold t115
  delta q0 q5 q6 wiZ q7 wsZ
  rintro ⟨l, c, _⟩ hx hp
  try dsimp +instances only [dft_int, dft_sl, dft_str]
  simp only [true_and, and_true, eq_self_iff_true, implies_true, reduceCtorEq, false_implies, true_implies, decide_eq_true_eq, decide_eq_false_iff_not, beq_self_eq_true, Bool.not_eq_true', ne_eq, Decidable.not_not, List.nil_append, List.length_singleton, List.length_cons, List.length_nil, Nat.zero_add, Nat.add_zero, Nat.mul_one, and_self, beq_iff_eq, Bool.not_true, Bool.not_false, Bool.not_eq_false', Bool.cond_false_right, Bool.and_eq_true, imp_self, Bool.not_eq_true, Bool.cond_true_left, Bool.or_eq_true]
  refine ⟨hp, ?_⟩
  rintro ⟨a, _⟩ _ ea
  exact congrArg (fun a : Int => decide (0 ≤ a)) ea
theorem h115 : c_strings_Contains.ok Tryd.prog GL 115 := con_ok (H := {}) (mkEnv_ok (gl := GL) (l := [(154, conSem c_strings_Index)]) (q := []) (d := []) _ tyOk (by kernel_rfl) ⟨h154.call, trivial⟩ trivial trivial) (by kernel_rfl) (by kernel_rfl) (Eq.mp e115 k115)
def t106 : Prop :=
  ∀ (x : q0), (q5 x) -> List.length x.1 < q6 /\ List.length x.2.1 = (1 : Nat) -> List.length x.1 < q6 /\ (∀ (y : Int × Unit), (wiZ y.1 /\ True) -> y.1 = idxS x.1 x.2.1 -> (decide (q7 <= y.1)
  = true -> (q7 <= y.1 /\ y.1 <= (lnZ x.1)) /\ (q7 <= wrZ (y.1 + (lnZ x.2.1)) /\ wrZ (y.1 + (lnZ x.2.1)) <= (lnZ x.1)) /\ List.take (Int.toNat y.1) x.1 = (q8 x).1 /\ List.drop (Int.toNat (wrZ
  (y.1 + (lnZ x.2.1)))) x.1 = (q8 x).2.1 /\ true = (q8 x).2.2) /\ (decide (q7 <= y.1) = false -> x.1 = (q8 x).1 /\ bs { data := #[] } = (q8 x).2.1 /\ false = (q8 x).2.2)) /\ True
theorem e106 : t106 = Con.vc c_stringslite_Cut GL (mkEnv ty [(146, conSem c_stringslite_Index)] [] [] [0, 1, 4, 5, 6, 7, 12]) {} Tryd.f106.ntmps Tryd.f106.results.toList (bodyOf Tryd.f106) := by kernel_rfl
theorem k106 : t106 := by
  unfold t106
  delta q0 q5 q6 wiZ q7 lnZ wrZ q8 wsZ
  rintro ⟨l, c, _⟩ hx hp
  have h1 : l.length < 4294967281 := hp.1
  have h2 : c.length = 1 := hp.2
  try dsimp +instances only [dft_int, dft_sl, dft_str]
  simp only [true_and, and_true, eq_self_iff_true, implies_true, reduceCtorEq, false_implies, true_implies, decide_eq_true_eq, decide_eq_false_iff_not, beq_self_eq_true, Bool.not_eq_true', ne_eq, Decidable.not_not, List.nil_append, List.length_singleton, List.length_cons, List.length_nil, Nat.zero_add, Nat.add_zero, Nat.mul_one, and_self, beq_iff_eq, Bool.not_true, Bool.not_false, Bool.not_eq_false', Bool.cond_false_right, Bool.and_eq_true, imp_self, Bool.not_eq_true, Bool.cond_true_left, Bool.or_eq_true]
  refine ⟨h1, ?_⟩
  rintro ⟨a, _⟩ _ ea
  simp only at ea ⊢
  obtain ⟨d, rfl⟩ : ∃ d, c = [d] := List.length_eq_one_iff.1 h2
  rw [idxS_one] at ea
  have hb := idxB_ge l d
  have hd : ([d] : List Int).getD 0 0 = d := rfl
  rw [hd, cutD_idx]
  have hw : IntKind.wrap .i64 (a + ([d] : List Int).length) = a + 1 := wrapK _ (by simp; omega) (by simp; omega)
  rw [hw, ea]
  refine ⟨fun h => ⟨⟨h, by omega⟩, ⟨by omega, by omega⟩, ?_⟩, fun h => ?_⟩
  . rw [if_pos h, show (idxB l d + 1).toNat = (idxB l d).toNat + 1 by omega]
    exact ⟨rfl, rfl, rfl⟩
  . rw [if_neg h]
    exact ⟨rfl, rfl, rfl⟩
theorem h106 : c_stringslite_Cut.ok Tryd.prog GL 106 := con_ok (H := {}) (mkEnv_ok (gl := GL) (l := [(146, conSem c_stringslite_Index)]) (q := []) (d := []) _ tyOk (by kernel_rfl) ⟨h146.call, trivial⟩ trivial trivial) (by kernel_rfl) (by kernel_rfl) (Eq.mp e106 k106)
def t47 : Prop :=
  ∀ (x : q0), (q5 x) -> List.length x.1 < q6 /\ List.length x.2.1 = (1 : Nat) -> (List.length x.1 < q6 /\ List.length x.2.1 = (1 : Nat)) /\ (∀ (y : q1), (wsZ y.1 /\ wsZ y.2.1 /\ wbZ y.2.2.1
  /\ True) -> y.1 = (q8 x).1 /\ y.2.1 = (q8 x).2.1 /\ y.2.2.1 = (q8 x).2.2 -> y.1 = (q8 x).1 /\ y.2.1 = (q8 x).2.1 /\ y.2.2.1 = (q8 x).2.2) /\ True
theorem e47 : t47 = Con.vc c_strings_Cut GL (mkEnv ty [(106, conSem c_stringslite_Cut)] [] [] [0, 1, 4, 5, 6]) {} Tryd.f47.ntmps Tryd.f47.results.toList (bodyOf Tryd.f47) := by kernel_rfl
theorem k47 : t47 := by
  unfold t47
  delta q0 q5 q6 q1 wsZ wbZ q8
  rintro ⟨l, c, _⟩ hx hp
  try dsimp +instances only [dft_int, dft_sl, dft_str]
  simp only [true_and, and_true, eq_self_iff_true, implies_true, reduceCtorEq, false_implies, true_implies, decide_eq_true_eq, decide_eq_false_iff_not, beq_self_eq_true, Bool.not_eq_true', ne_eq, Decidable.not_not, List.nil_append, List.length_singleton, List.length_cons, List.length_nil, Nat.zero_add, Nat.add_zero, Nat.mul_one, and_self, beq_iff_eq, Bool.not_true, Bool.not_false, Bool.not_eq_false', Bool.cond_false_right, Bool.and_eq_true, imp_self, Bool.not_eq_true, Bool.cond_true_left, Bool.or_eq_true]
  exact hp
theorem h47 : c_strings_Cut.ok Tryd.prog GL 47 := con_ok (H := {}) (mkEnv_ok (gl := GL) (l := [(106, conSem c_stringslite_Cut)]) (q := []) (d := []) _ tyOk (by kernel_rfl) ⟨h106.call, trivial⟩ trivial trivial) (by kernel_rfl) (by kernel_rfl) (Eq.mp e47 k47)
def t182 : Prop :=
  ∀ (x : q0), (q5 x) -> True -> (q11 x) /\ (q11 x) /\ (q10 x) /\ (decide (q35 x) = true -> (q12 x) = true /\ (q12 x) = true /\ (q7 <= (lnZ x.2.1) /\ (lnZ x.2.1) <= (lnZ x.1)) /\ True) /\ (q11
  x) /\ (q9 x) /\ (decide (q35 x) = true -> (q12 x) = true) /\ (bif decide (q35 x) then decide (List.take (Int.toNat (lnZ x.2.1)) x.1 = x.2.1) else false) = hasP x.2.1 x.1
theorem e182 : t182 = Con.vc c_stringslite_HasPrefix GL (mkEnv ty [] [] [] [0, 1, 4]) {} Tryd.f182.ntmps Tryd.f182.results.toList (bodyOf Tryd.f182) := by kernel_rfl
theorem k182 : t182 := by
  unfold t182
  delta q0 q5 q11 q10 q35 q12 q7 lnZ q9 wsZ
  rintro ⟨l, c, _⟩ hx hp
  try dsimp +instances only [dft_int, dft_sl, dft_str]
  simp only [true_and, and_true, eq_self_iff_true, implies_true, reduceCtorEq, false_implies, true_implies, decide_eq_true_eq, decide_eq_false_iff_not, beq_self_eq_true, Bool.not_eq_true', ne_eq, Decidable.not_not, List.nil_append, List.length_singleton, List.length_cons, List.length_nil, Nat.zero_add, Nat.add_zero, Nat.mul_one, and_self, beq_iff_eq, Bool.not_true, Bool.not_false, Bool.not_eq_false', Bool.cond_false_right, Bool.and_eq_true, imp_self, Bool.not_eq_true, Bool.cond_true_left, Bool.or_eq_true]
  refine ⟨fun h => ⟨h, h, by omega, h⟩, ?_⟩
  rw [Int.toNat_natCast, hasP]
  by_cases h : l.take c.length = c
  . have := congrArg List.length h
    rw [List.length_take] at this
    rw [decide_eq_true h, decide_eq_true (by omega)]; rfl
  . rw [decide_eq_false h, Bool.and_false]
theorem h182 : c_stringslite_HasPrefix.ok Tryd.prog GL 182 := con_ok (H := {}) (mkEnv_ok (gl := GL) (l := []) (q := []) (d := []) _ tyOk (by kernel_rfl) trivial trivial trivial) (by kernel_rfl) (by kernel_rfl) (Eq.mp e182 k182)
def t153 : Prop :=
  ∀ (x : q0), (q5 x) -> True -> True /\ (∀ (y : q2), (q13 y) -> y.1 = hasP x.2.1 x.1 -> ((!y.1) = true -> (x.1 = if hasP x.2.1 x.1 = true then List.drop (List.length x.2.1) x.1 else x.1) /\
  false = hasP x.2.1 x.1) /\ ((!y.1) = false -> (q7 <= (lnZ x.2.1) /\ (lnZ x.2.1) <= (lnZ x.1)) /\ (List.drop (Int.toNat (lnZ x.2.1)) x.1 = if hasP x.2.1 x.1 = true then List.drop
  (List.length x.2.1) x.1 else x.1) /\ true = hasP x.2.1 x.1)) /\ True
theorem e153 : t153 = Con.vc c_stringslite_CutPrefix GL (mkEnv ty [(182, conSem c_stringslite_HasPrefix)] [] [] [0, 1, 4, 5, 9]) {} Tryd.f153.ntmps Tryd.f153.results.toList (bodyOf Tryd.f153) := by kernel_rfl
theorem k153 : t153 := by
  unfold t153
  delta q0 q5 q2 q13 q7 lnZ wsZ wbZ
  rintro ⟨l, c, _⟩ hx hp
  try dsimp +instances only [dft_int, dft_sl, dft_str]
  simp only [true_and, and_true, eq_self_iff_true, implies_true, reduceCtorEq, false_implies, true_implies, decide_eq_true_eq, decide_eq_false_iff_not, beq_self_eq_true, Bool.not_eq_true', ne_eq, Decidable.not_not, List.nil_append, List.length_singleton, List.length_cons, List.length_nil, Nat.zero_add, Nat.add_zero, Nat.mul_one, and_self, beq_iff_eq, Bool.not_true, Bool.not_false, Bool.not_eq_false', Bool.cond_false_right, Bool.and_eq_true, imp_self, Bool.not_eq_true, Bool.cond_true_left, Bool.or_eq_true]
  rintro ⟨a, _⟩ _ ea
  simp only at ea ⊢
  refine ⟨fun h => ?_, fun h => ?_⟩
  . rw [← ea, h]
    exact ⟨rfl, rfl⟩
  . have hq := ea.symm.trans h
    rw [← ea, h]
    unfold hasP at hq
    have := congrArg List.length (of_decide_eq_true hq)
    rw [List.length_take] at this
    exact ⟨⟨by omega, by omega⟩, rfl, rfl⟩
theorem h153 : c_stringslite_CutPrefix.ok Tryd.prog GL 153 := con_ok (H := {}) (mkEnv_ok (gl := GL) (l := [(182, conSem c_stringslite_HasPrefix)]) (q := []) (d := []) _ tyOk (by kernel_rfl) ⟨h182.call, trivial⟩ trivial trivial) (by kernel_rfl) (by kernel_rfl) (Eq.mp e153 k153)
def t114 : Prop :=
  ∀ (x : q0), (q5 x) -> True -> True /\ (∀ (y : List Int × Bool × Unit), (wsZ y.1 /\ wbZ y.2.1 /\ True) -> (y.1 = if hasP x.2.1 x.1 = true then List.drop (List.length x.2.1) x.1 else x.1) /\
  y.2.1 = hasP x.2.1 x.1 -> (y.1 = if hasP x.2.1 x.1 = true then List.drop (List.length x.2.1) x.1 else x.1) /\ y.2.1 = hasP x.2.1 x.1) /\ True
theorem e114 : t114 = Con.vc c_strings_CutPrefix GL (mkEnv ty [(153, conSem c_stringslite_CutPrefix)] [] [] [0, 1, 4, 5]) {} Tryd.f114.ntmps Tryd.f114.results.toList (bodyOf Tryd.f114) := by kernel_rfl
theorem k114 : t114 := by
  unfold t114
  delta q0 q5 wsZ wbZ
  rintro ⟨l, c, _⟩ hx hp
  try dsimp +instances only [dft_int, dft_sl, dft_str]
  simp only [true_and, and_true, eq_self_iff_true, implies_true, reduceCtorEq, false_implies, true_implies, decide_eq_true_eq, decide_eq_false_iff_not, beq_self_eq_true, Bool.not_eq_true', ne_eq, Decidable.not_not, List.nil_append, List.length_singleton, List.length_cons, List.length_nil, Nat.zero_add, Nat.add_zero, Nat.mul_one, and_self, beq_iff_eq, Bool.not_true, Bool.not_false, Bool.not_eq_false', Bool.cond_false_right, Bool.and_eq_true, imp_self, Bool.not_eq_true, Bool.cond_true_left, Bool.or_eq_true]
theorem h114 : c_strings_CutPrefix.ok Tryd.prog GL 114 := con_ok (H := {}) (mkEnv_ok (gl := GL) (l := [(153, conSem c_stringslite_CutPrefix)]) (q := []) (d := []) _ tyOk (by kernel_rfl) ⟨h153.call, trivial⟩ trivial trivial) (by kernel_rfl) (by kernel_rfl) (Eq.mp e114 k114)
end Go.Proofs.YtbdfeddakniaeaaDoor
end
