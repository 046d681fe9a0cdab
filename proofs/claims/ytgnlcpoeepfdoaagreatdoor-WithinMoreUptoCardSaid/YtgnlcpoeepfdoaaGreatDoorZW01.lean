/- Texts of a verified walk, led together: Gl12A, Gl12W, StrsA, StrsW, TextA, TextW. -/
import Derived.Test.YtgnlcpoeepfdoaaGreatDoorZV05
import Derived.Test.YtgnlcpoeepfdoaaGreatDoorZTy
import Derived.Test.YtgnlcpoeepfdoaaGreatDoorZV06
import Derived.Test.YtgnlcpoeepfdoaaGreatDoorZShelf
set_option linter.unusedVariables false
set_option linter.unusedSimpArgs false
section
namespace Go.Proofs.YtgnlcpoeepfdoaaGreatDoor
open Go Go.Vc Go.Pl Go.Proofs
def GL : Gl := [(1, .arr U8 Lib.firstTab), (2, .arr (.pair U8 U8) accTab), (0, .num .i64)]
end Go.Proofs.YtgnlcpoeepfdoaaGreatDoor
end
section
namespace Go.Proofs.YtgnlcpoeepfdoaaGreatDoor
open Go Go.Vc Go.Pl Go.Proofs
end Go.Proofs.YtgnlcpoeepfdoaaGreatDoor
end
section
namespace Go.Proofs.YtgnlcpoeepfdoaaGreatDoor
open Go Go.Vc Go.Pl Go.Proofs
def c_bytealg_IndexByteString : Con := { args := [Kd.str, U8].map .dat, res := [.dat I64], pre := fun _ => True, post := fun x y => y.1 = idxB x.1 x.2.1 }
def c_stringslite_IndexByte : Con := { args := [.dat .str, .dat U8], res := [.dat I64], pre := fun _ => True, post := fun x y => y.1 = idxB x.1 x.2.1 }
def c_strings_IndexByte : Con := { args := [.dat .str, .dat U8], res := [.dat I64], pre := fun _ => True, post := fun x y => y.1 = idxB x.1 x.2.1 }
def c_stringslite_Index : Con := { args := [Kd.str, Kd.str].map .dat, res := [I64].map .dat, pre := fun x => x.1.length < 4294967281, post := fun x y => y.1 = idxS x.1 x.2.1 }
def c_strings_Index : Con := { args := [.dat .str, .dat .str], res := [.dat I64], pre := fun x => x.1.length < 4294967281, post := fun x y => y.1 = idxS x.1 x.2.1 }
def c_strings_Contains : Con := { args := [.dat .str, .dat .str], res := [.dat .bool], pre := fun x => x.1.length < 4294967281, post := fun x y => y.1 = decide (0 ≤ idxS x.1 x.2.1) }
def c_stringslite_Cut : Con := { args := [.dat .str, .dat .str], res := [.dat .str, .dat .str, .dat .bool], pre := fun x => x.1.length < 4294967281 ∧ x.2.1.length = 1, post := fun x y => y.1 = (cutD (x.2.1.getD 0 0) x.1).1 ∧ y.2.1 = (cutD (x.2.1.getD 0 0) x.1).2.1 ∧ y.2.2.1 = (cutD (x.2.1.getD 0 0) x.1).2.2 }
def c_strings_Cut : Con := { args := [.dat .str, .dat .str], res := [.dat .str, .dat .str, .dat .bool], pre := fun x => x.1.length < 4294967281 ∧ x.2.1.length = 1, post := fun x y => y.1 = (cutD (x.2.1.getD 0 0) x.1).1 ∧ y.2.1 = (cutD (x.2.1.getD 0 0) x.1).2.1 ∧ y.2.2.1 = (cutD (x.2.1.getD 0 0) x.1).2.2 }
def c_stringslite_HasPrefix : Con := { args := [.dat .str, .dat .str], res := [.dat .bool], pre := fun _ => True, post := fun x y => y.1 = hasP x.2.1 x.1 }
def c_stringslite_CutPrefix : Con := { args := [.dat .str, .dat .str], res := [.dat .str, .dat .bool], pre := fun _ => True, post := fun x y => y.1 = (if hasP x.2.1 x.1 then x.1.drop x.2.1.length else x.1) ∧ y.2.1 = hasP x.2.1 x.1 }
def c_strings_CutPrefix : Con := { args := [.dat .str, .dat .str], res := [.dat .str, .dat .bool], pre := fun _ => True, post := fun x y => y.1 = (if hasP x.2.1 x.1 then x.1.drop x.2.1.length else x.1) ∧ y.2.1 = hasP x.2.1 x.1 }
end Go.Proofs.YtgnlcpoeepfdoaaGreatDoor
end
section
namespace Go.Proofs.YtgnlcpoeepfdoaaGreatDoor
open Go Go.Vc Go.Pl Go.Proofs
set_option linter.unusedVariables false
set_option linter.unusedSimpArgs false
abbrev wrZ (x : Int) : Int := IntKind.wrap IntKind.i64 x
abbrev wiZ (x : Int) : Prop := Kd.wf (Kd.int IntKind.i64) x
abbrev wsZ (x : List Int) : Prop := Kd.wf Kd.str x
abbrev wbZ (x : Bool) : Prop := Kd.wf Kd.bool x
abbrev lnZ {α : Type} (x : List α) : Int := (↑(List.length x) : Int)
abbrev q0 := (List Int × Int × Unit)
abbrev q1 := (Int × Unit)
abbrev q2 := (List Int × List Int × Unit)
abbrev q3 := (List Int × List Int × Bool × Unit)
abbrev q4 := (Bool × Unit)
abbrev q5 := (List Int × Bool × Unit)
abbrev q30 (p0 : q1) := (wiZ p0.1 /\ True)
abbrev q31 (p0 : q2) := (wsZ p0.1 /\ wsZ p0.2.1 /\ True)
abbrev q32 := (4294967281 : Nat)
abbrev q33 := (0 : Int)
abbrev q252 := (0 : Nat)
abbrev q236 := (0 : Int)
abbrev q34 (p0 : q2) := (cutD (List.getD p0.2.1 q252 q236) p0.1)
abbrev q35 (p0 : q1) := (Int.toNat p0.1)
abbrev q36 := (1 : Nat)
abbrev q37 (p0 : q3) := (wsZ p0.1 /\ wsZ p0.2.1 /\ wbZ p0.2.2.1 /\ True)
abbrev q268 (p0 : q2) := (decide ((lnZ p0.2.1) <= (lnZ p0.1)) == true)
abbrev q38 (p0 : q2) := (decide ((lnZ p0.2.1) <= (lnZ p0.1)) = true -> (q268 p0) = true /\ (q268 p0) = true /\ (q236 <= (lnZ p0.2.1) /\ (lnZ p0.2.1) <= (lnZ p0.1)) /\ True)
abbrev q39 (p0 : q2) := (decide ((lnZ p0.2.1) <= (lnZ p0.1)) = true -> (q268 p0) = true /\ (q268 p0) = true /\ True)
abbrev q40 (p0 : q2) := (decide ((lnZ p0.2.1) <= (lnZ p0.1)) = true -> (q268 p0) = true /\ True)
abbrev q41 (p0 : q2) := (decide ((lnZ p0.2.1) <= (lnZ p0.1)) = true -> True)
abbrev q42 (p0 : q2) := (decide ((lnZ p0.2.1) <= (lnZ p0.1)) == true)
abbrev q43 (p0 : q2) := ((lnZ p0.2.1) <= (lnZ p0.1))
abbrev q44 (p0 : q4) := (wbZ p0.1 /\ True)
abbrev q298 := (Kd.int IntKind.u8)
theorem h123 : CallOk Tryz.prog GL 123 (conSem c_bytealg_IndexByteString) := by
  refine ext_ok (ks := [Kd.str, U8]) (k := I64) rfl ?_
  rintro w F ⟨l, c, u⟩ vs h _
  obtain ⟨v1, r1, rfl, h1, v2, r2, rfl, h2, rfl⟩ := h
  obtain ⟨s, rfl, rfl, hs⟩ := VRep_str.1 h1
  obtain ⟨rfl, hc⟩ := VRep_int.1 h2
  have hc2 : 0 ≤ c ∧ c ≤ 255 := inr_u8.1 hc
  refine ⟨_, (Lib.indexByte s.data.toList c.toNat.toUInt8 : Int), ?_, idxB_lib _ _ hc2, VRep_int.2 ⟨rfl, ?_⟩⟩
  . rw [run_callFunc_extern Tryz.func123 (by kernel_rfl) (by kernel_rfl) (by kernel_rfl) (e := Extern.BytealgIndexByte.indexByte) (by kernel_rfl)]
    show ((Extern.BytealgIndexByte.indexByte #[.string s, .int .u8 c]).run Tryz.prog w).andThen _ = _
    rw [Lib.run_indexByteString]
    rfl
  . rw [idxB_lib _ _ hc2]
    have h1 := idxB_ge (bs s) c
    have h3 : s.size ≤ 9223372036854775807 := hs
    rw [bs_length] at h1
    show InR .i64 (idxB (bs s) c)
    generalize idxB (bs s) c = r at h1 ⊢
    simp [InR, IntKind.min, IntKind.max, IntKind.signed, IntKind.bits]
    omega
def t104 : Prop :=
  ∀ (x : q0), (wsZ x.1 /\ Kd.wf q298 x.2.1 /\ True) -> True -> True /\ (∀ (y : q1), (q30 y) -> y.1 = idxB x.1 x.2.1 -> y.1 = idxB x.1 x.2.1) /\ True
theorem e104 : t104 = Con.vc c_stringslite_IndexByte GL (mkEnv ty [(123, conSem c_bytealg_IndexByteString)] [] [] [0, 1, 4]) {} Tryz.f104.ntmps Tryz.f104.results.toList (bodyOf Tryz.f104) := by kernel_rfl
theorem k104 : t104 := by
  unfold t104
  delta q0 wsZ q298 q1 q30 wiZ
  rintro ⟨l, c, _⟩ hx _
  try dsimp +instances only [dft_int, dft_sl, dft_str]
  simp only [true_and, and_true, eq_self_iff_true, implies_true, reduceCtorEq, false_implies, true_implies, decide_eq_true_eq, decide_eq_false_iff_not, beq_self_eq_true, Bool.not_eq_true', ne_eq, Decidable.not_not, List.nil_append, List.length_singleton, List.length_cons, List.length_nil, Nat.zero_add, Nat.add_zero, Nat.mul_one, and_self, beq_iff_eq, Bool.not_true, Bool.not_false, Bool.not_eq_false', Bool.cond_false_right, Bool.and_eq_true, imp_self, Bool.not_eq_true, Bool.cond_true_left, Bool.or_eq_true]
theorem h104 : c_stringslite_IndexByte.ok Tryz.prog GL 104 := con_ok (H := {}) (mkEnv_ok (gl := GL) (l := [(123, conSem c_bytealg_IndexByteString)]) (q := []) (d := []) _ tyOk (by kernel_rfl) ⟨h123, trivial⟩ trivial trivial) (by kernel_rfl) (by kernel_rfl) (Eq.mp e104 k104)
def t88 : Prop :=
  ∀ (x : q0), (wsZ x.1 /\ Kd.wf q298 x.2.1 /\ True) -> True -> True /\ (∀ (y : q1), (q30 y) -> y.1 = idxB x.1 x.2.1 -> y.1 = idxB x.1 x.2.1) /\ True
theorem e88 : t88 = Con.vc c_strings_IndexByte GL (mkEnv ty [(104, conSem c_stringslite_IndexByte)] [] [] [0, 1, 4]) {} Tryz.f88.ntmps Tryz.f88.results.toList (bodyOf Tryz.f88) := by kernel_rfl
theorem k88 : t88 := by
  unfold t88
  delta q0 wsZ q298 q1 q30 wiZ
  rintro ⟨l, c, _⟩ hx _
  try dsimp +instances only [dft_int, dft_sl, dft_str]
  simp only [true_and, and_true, eq_self_iff_true, implies_true, reduceCtorEq, false_implies, true_implies, decide_eq_true_eq, decide_eq_false_iff_not, beq_self_eq_true, Bool.not_eq_true', ne_eq, Decidable.not_not, List.nil_append, List.length_singleton, List.length_cons, List.length_nil, Nat.zero_add, Nat.add_zero, Nat.mul_one, and_self, beq_iff_eq, Bool.not_true, Bool.not_false, Bool.not_eq_false', Bool.cond_false_right, Bool.and_eq_true, imp_self, Bool.not_eq_true, Bool.cond_true_left, Bool.or_eq_true]
theorem h88 : c_strings_IndexByte.ok Tryz.prog GL 88 := con_ok (H := {}) (mkEnv_ok (gl := GL) (l := [(104, conSem c_stringslite_IndexByte)]) (q := []) (d := []) _ tyOk (by kernel_rfl) ⟨h104.call, trivial⟩ trivial trivial) (by kernel_rfl) (by kernel_rfl) (Eq.mp e88 k88)
theorem h99 : c_stringslite_Index.ok Tryz.prog GL 99 := by
  refine lib_ok (ks := [Kd.str, Kd.str]) (rs := [I64]) Tryz.func99 (by kernel_rfl) (by decide) ?_
  rintro w F ⟨l, m, u⟩ vs h hg hp
  obtain ⟨v1, r1, rfl, h1, v2, r2, rfl, h2, rfl⟩ := h
  obtain ⟨s, rfl, rfl, hs⟩ := VRep_str.1 h1
  obtain ⟨t, rfl, rfl, ht⟩ := VRep_str.1 h2
  obtain ⟨_, _, k, hk⟩ := hg 0 (.num .i64) rfl
  have hp : (bs s).length < 4294967281 := hp
  rw [bs_length] at hp
  refine Calls.mono (Tryz.stringslite_Index s t k w hp hk) ?_
  rintro e w' ⟨rfl, rfl⟩
  have hb : ∀ s : ByteArray, Bys (bs s) := bs_range
  have e1 : Lib.index s.data.toList t.data.toList = idxS (bs s) (bs t) := by
    rw [← u8s_bs s, ← u8s_bs t, idxS_lib _ _ (hb s) (hb t)]
  rw [e1]
  have h1 := idxS_ge (bs s) (bs t)
  rw [bs_length] at h1
  refine ⟨Kept.refl _ _, [_], (idxS (bs s) (bs t), ()), rfl, rfl, _, [], rfl, VRep_int.2 ⟨rfl, ?_⟩, rfl⟩
  generalize idxS (bs s) (bs t) = r at h1 ⊢
  simp [InR, IntKind.min, IntKind.max, IntKind.signed, IntKind.bits]
  omega
def t71 : Prop :=
  ∀ (x : q2), (q31 x) -> List.length x.1 < q32 -> List.length x.1 < q32 /\ (∀ (y : q1), (q30 y) -> y.1 = idxS x.1 x.2.1 -> y.1 = idxS x.1 x.2.1) /\ True
theorem e71 : t71 = Con.vc c_strings_Index GL (mkEnv ty [(99, conSem c_stringslite_Index)] [] [] [0, 1, 4]) {} Tryz.f71.ntmps Tryz.f71.results.toList (bodyOf Tryz.f71) := by kernel_rfl
theorem k71 : t71 := by
  unfold t71
  delta q2 q31 q32 q1 q30 wsZ wiZ
  rintro ⟨l, c, _⟩ hx hp
  try dsimp +instances only [dft_int, dft_sl, dft_str]
  simp only [true_and, and_true, eq_self_iff_true, implies_true, reduceCtorEq, false_implies, true_implies, decide_eq_true_eq, decide_eq_false_iff_not, beq_self_eq_true, Bool.not_eq_true', ne_eq, Decidable.not_not, List.nil_append, List.length_singleton, List.length_cons, List.length_nil, Nat.zero_add, Nat.add_zero, Nat.mul_one, and_self, beq_iff_eq, Bool.not_true, Bool.not_false, Bool.not_eq_false', Bool.cond_false_right, Bool.and_eq_true, imp_self, Bool.not_eq_true, Bool.cond_true_left, Bool.or_eq_true]
  exact hp
theorem h71 : c_strings_Index.ok Tryz.prog GL 71 := con_ok (H := {}) (mkEnv_ok (gl := GL) (l := [(99, conSem c_stringslite_Index)]) (q := []) (d := []) _ tyOk (by kernel_rfl) ⟨h99.call, trivial⟩ trivial trivial) (by kernel_rfl) (by kernel_rfl) (Eq.mp e71 k71)
def t43 : Prop :=
  ∀ (x : q2), (q31 x) -> List.length x.1 < q32 -> List.length x.1 < q32 /\ (∀ (y : q1), (q30 y) -> y.1 = idxS x.1 x.2.1 -> decide (q236 <= y.1) = decide (q33 <= idxS x.1 x.2.1)) /\ True
theorem e43 : t43 = Con.vc c_strings_Contains GL (mkEnv ty [(71, conSem c_strings_Index)] [] [] [0, 1, 4]) {} Tryz.f43.ntmps Tryz.f43.results.toList (bodyOf Tryz.f43) := by kernel_rfl
theorem k43 : t43 := by
  unfold t43
  delta q2 q31 q32 q1 q30 q236 q33 wsZ wiZ
  rintro ⟨l, c, _⟩ hx hp
  try dsimp +instances only [dft_int, dft_sl, dft_str]
  simp only [true_and, and_true, eq_self_iff_true, implies_true, reduceCtorEq, false_implies, true_implies, decide_eq_true_eq, decide_eq_false_iff_not, beq_self_eq_true, Bool.not_eq_true', ne_eq, Decidable.not_not, List.nil_append, List.length_singleton, List.length_cons, List.length_nil, Nat.zero_add, Nat.add_zero, Nat.mul_one, and_self, beq_iff_eq, Bool.not_true, Bool.not_false, Bool.not_eq_false', Bool.cond_false_right, Bool.and_eq_true, imp_self, Bool.not_eq_true, Bool.cond_true_left, Bool.or_eq_true]
  refine ⟨hp, ?_⟩
  rintro ⟨a, _⟩ _ ea
  exact congrArg (fun a : Int => decide (0 ≤ a)) ea
theorem h43 : c_strings_Contains.ok Tryz.prog GL 43 := con_ok (H := {}) (mkEnv_ok (gl := GL) (l := [(71, conSem c_strings_Index)]) (q := []) (d := []) _ tyOk (by kernel_rfl) ⟨h71.call, trivial⟩ trivial trivial) (by kernel_rfl) (by kernel_rfl) (Eq.mp e43 k43)
def t75 : Prop :=
  ∀ (x : q2), (q31 x) -> List.length x.1 < q32 /\ List.length x.2.1 = q36 -> List.length x.1 < q32 /\ (∀ (y : q1), (q30 y) -> y.1 = idxS x.1 x.2.1 -> (decide (q236 <= y.1) = true -> (q33 <=
  y.1 /\ y.1 <= (lnZ x.1)) /\ (q33 <= wrZ (y.1 + (lnZ x.2.1)) /\ wrZ (y.1 + (lnZ x.2.1)) <= (lnZ x.1)) /\ List.take (q35 y) x.1 = (q34 x).1 /\ List.drop (Int.toNat (wrZ (y.1 + (lnZ x.2.1))))
  x.1 = (q34 x).2.1 /\ true = (q34 x).2.2) /\ (decide (q236 <= y.1) = false -> x.1 = (q34 x).1 /\ bs { data := #[] } = (q34 x).2.1 /\ false = (q34 x).2.2)) /\ True
theorem e75 : t75 = Con.vc c_stringslite_Cut GL (mkEnv ty [(99, conSem c_stringslite_Index)] [] [] [0, 1, 4, 5, 6, 7, 12]) {} Tryz.f75.ntmps Tryz.f75.results.toList (bodyOf Tryz.f75) := by kernel_rfl
theorem k75 : t75 := by
  unfold t75
  delta q2 q31 q32 q36 q1 q30 q236 q33 lnZ wrZ q35 q34 wsZ wiZ q252
  rintro ⟨l, c, _⟩ hx hp
  have h1 : l.length < 4294967281 := hp.1
  have h2 : c.length = 1 := hp.2
  try dsimp +instances only [dft_int, dft_sl, dft_str]
  simp only [true_and, and_true, eq_self_iff_true, implies_true, reduceCtorEq, false_implies, true_implies, decide_eq_true_eq, decide_eq_false_iff_not, beq_self_eq_true, Bool.not_eq_true', ne_eq, Decidable.not_not, List.nil_append, List.length_singleton, List.length_cons, List.length_nil, Nat.zero_add, Nat.add_zero, Nat.mul_one, and_self, beq_iff_eq, Bool.not_true, Bool.not_false, Bool.not_eq_false', Bool.cond_false_right, Bool.and_eq_true, imp_self, Bool.not_eq_true, Bool.cond_true_left, Bool.or_eq_true]
  refine ⟨h1, ?_⟩
  rintro ⟨a, _⟩ _ ea
  simp only at ea ⊢
  obtain ⟨d, rfl⟩ : ∃ d, c = [d] := List.length_eq_one_iff.1 h2
  rw [idxS_one] at ea
  have hb := idxB_ge l d
  have hd : ([d] : List Int).getD 0 0 = d := rfl
  rw [hd, cutD_idx]
  have hw : IntKind.wrap .i64 (a + ([d] : List Int).length) = a + 1 := wrapK _ (by simp; omega) (by simp; omega)
  rw [hw, ea]
  refine ⟨fun h => ⟨⟨h, by omega⟩, ⟨by omega, by omega⟩, ?_⟩, fun h => ?_⟩
  . rw [if_pos h, show (idxB l d + 1).toNat = (idxB l d).toNat + 1 by omega]
    exact ⟨rfl, rfl, rfl⟩
  . rw [if_neg h]
    exact ⟨rfl, rfl, rfl⟩
theorem h75 : c_stringslite_Cut.ok Tryz.prog GL 75 := con_ok (H := {}) (mkEnv_ok (gl := GL) (l := [(99, conSem c_stringslite_Index)]) (q := []) (d := []) _ tyOk (by kernel_rfl) ⟨h99.call, trivial⟩ trivial trivial) (by kernel_rfl) (by kernel_rfl) (Eq.mp e75 k75)
def t46 : Prop :=
  ∀ (x : q2), (q31 x) -> List.length x.1 < q32 /\ List.length x.2.1 = q36 -> (List.length x.1 < q32 /\ List.length x.2.1 = q36) /\ (∀ (y : q3), (q37 y) -> y.1 = (q34 x).1 /\ y.2.1 = (q34
  x).2.1 /\ y.2.2.1 = (q34 x).2.2 -> y.1 = (q34 x).1 /\ y.2.1 = (q34 x).2.1 /\ y.2.2.1 = (q34 x).2.2) /\ True
theorem e46 : t46 = Con.vc c_strings_Cut GL (mkEnv ty [(75, conSem c_stringslite_Cut)] [] [] [0, 1, 4, 5, 6]) {} Tryz.f46.ntmps Tryz.f46.results.toList (bodyOf Tryz.f46) := by kernel_rfl
theorem k46 : t46 := by
  unfold t46
  delta q2 q31 q32 q36 q3 q37 q34 wsZ wbZ q252 q236
  rintro ⟨l, c, _⟩ hx hp
  try dsimp +instances only [dft_int, dft_sl, dft_str]
  simp only [true_and, and_true, eq_self_iff_true, implies_true, reduceCtorEq, false_implies, true_implies, decide_eq_true_eq, decide_eq_false_iff_not, beq_self_eq_true, Bool.not_eq_true', ne_eq, Decidable.not_not, List.nil_append, List.length_singleton, List.length_cons, List.length_nil, Nat.zero_add, Nat.add_zero, Nat.mul_one, and_self, beq_iff_eq, Bool.not_true, Bool.not_false, Bool.not_eq_false', Bool.cond_false_right, Bool.and_eq_true, imp_self, Bool.not_eq_true, Bool.cond_true_left, Bool.or_eq_true]
  exact hp
theorem h46 : c_strings_Cut.ok Tryz.prog GL 46 := con_ok (H := {}) (mkEnv_ok (gl := GL) (l := [(75, conSem c_stringslite_Cut)]) (q := []) (d := []) _ tyOk (by kernel_rfl) ⟨h75.call, trivial⟩ trivial trivial) (by kernel_rfl) (by kernel_rfl) (Eq.mp e46 k46)
def t89 : Prop :=
  ∀ (x : q2), (q31 x) -> True -> (q41 x) /\ (q41 x) /\ (q40 x) /\ (q38 x) /\ (q41 x) /\ (q39 x) /\ (decide (q43 x) = true -> (q42 x) = true) /\ (bif decide (q43 x) then decide (List.take
  (Int.toNat (lnZ x.2.1)) x.1 = x.2.1) else false) = hasP x.2.1 x.1
theorem e89 : t89 = Con.vc c_stringslite_HasPrefix GL (mkEnv ty [] [] [] [0, 1, 4]) {} Tryz.f89.ntmps Tryz.f89.results.toList (bodyOf Tryz.f89) := by kernel_rfl
theorem k89 : t89 := by
  unfold t89
  delta q2 q31 q41 q40 q38 q39 q43 q42 lnZ wsZ q268 q236
  rintro ⟨l, c, _⟩ hx hp
  try dsimp +instances only [dft_int, dft_sl, dft_str]
  simp only [true_and, and_true, eq_self_iff_true, implies_true, reduceCtorEq, false_implies, true_implies, decide_eq_true_eq, decide_eq_false_iff_not, beq_self_eq_true, Bool.not_eq_true', ne_eq, Decidable.not_not, List.nil_append, List.length_singleton, List.length_cons, List.length_nil, Nat.zero_add, Nat.add_zero, Nat.mul_one, and_self, beq_iff_eq, Bool.not_true, Bool.not_false, Bool.not_eq_false', Bool.cond_false_right, Bool.and_eq_true, imp_self, Bool.not_eq_true, Bool.cond_true_left, Bool.or_eq_true]
  refine ⟨fun h => ⟨h, h, by omega, h⟩, ?_⟩
  rw [Int.toNat_natCast, hasP]
  by_cases h : l.take c.length = c
  . have := congrArg List.length h
    rw [List.length_take] at this
    rw [decide_eq_true h, decide_eq_true (by omega)]; rfl
  . rw [decide_eq_false h, Bool.and_false]
theorem h89 : c_stringslite_HasPrefix.ok Tryz.prog GL 89 := con_ok (H := {}) (mkEnv_ok (gl := GL) (l := []) (q := []) (d := []) _ tyOk (by kernel_rfl) trivial trivial trivial) (by kernel_rfl) (by kernel_rfl) (Eq.mp e89 k89)
def t70 : Prop :=
  ∀ (x : q2), (q31 x) -> True -> True /\ (∀ (y : q4), (q44 y) -> y.1 = hasP x.2.1 x.1 -> ((!y.1) = true -> (x.1 = if hasP x.2.1 x.1 = true then List.drop (List.length x.2.1) x.1 else x.1) /\
  false = hasP x.2.1 x.1) /\ ((!y.1) = false -> (q236 <= (lnZ x.2.1) /\ (lnZ x.2.1) <= (lnZ x.1)) /\ (List.drop (Int.toNat (lnZ x.2.1)) x.1 = if hasP x.2.1 x.1 = true then List.drop
  (List.length x.2.1) x.1 else x.1) /\ true = hasP x.2.1 x.1)) /\ True
theorem e70 : t70 = Con.vc c_stringslite_CutPrefix GL (mkEnv ty [(89, conSem c_stringslite_HasPrefix)] [] [] [0, 1, 4, 5, 9]) {} Tryz.f70.ntmps Tryz.f70.results.toList (bodyOf Tryz.f70) := by kernel_rfl
theorem k70 : t70 := by
  unfold t70
  delta q2 q31 q4 q44 q236 lnZ wsZ wbZ
  rintro ⟨l, c, _⟩ hx hp
  try dsimp +instances only [dft_int, dft_sl, dft_str]
  simp only [true_and, and_true, eq_self_iff_true, implies_true, reduceCtorEq, false_implies, true_implies, decide_eq_true_eq, decide_eq_false_iff_not, beq_self_eq_true, Bool.not_eq_true', ne_eq, Decidable.not_not, List.nil_append, List.length_singleton, List.length_cons, List.length_nil, Nat.zero_add, Nat.add_zero, Nat.mul_one, and_self, beq_iff_eq, Bool.not_true, Bool.not_false, Bool.not_eq_false', Bool.cond_false_right, Bool.and_eq_true, imp_self, Bool.not_eq_true, Bool.cond_true_left, Bool.or_eq_true]
  rintro ⟨a, _⟩ _ ea
  simp only at ea ⊢
  refine ⟨fun h => ?_, fun h => ?_⟩
  . rw [← ea, h]
    exact ⟨rfl, rfl⟩
  . have hq := ea.symm.trans h
    rw [← ea, h]
    unfold hasP at hq
    have := congrArg List.length (of_decide_eq_true hq)
    rw [List.length_take] at this
    exact ⟨⟨by omega, by omega⟩, rfl, rfl⟩
theorem h70 : c_stringslite_CutPrefix.ok Tryz.prog GL 70 := con_ok (H := {}) (mkEnv_ok (gl := GL) (l := [(89, conSem c_stringslite_HasPrefix)]) (q := []) (d := []) _ tyOk (by kernel_rfl) ⟨h89.call, trivial⟩ trivial trivial) (by kernel_rfl) (by kernel_rfl) (Eq.mp e70 k70)
def t42 : Prop :=
  ∀ (x : q2), (q31 x) -> True -> True /\ (∀ (y : q5), (wsZ y.1 /\ wbZ y.2.1 /\ True) -> (y.1 = if hasP x.2.1 x.1 = true then List.drop (List.length x.2.1) x.1 else x.1) /\ y.2.1 = hasP x.2.1
  x.1 -> (y.1 = if hasP x.2.1 x.1 = true then List.drop (List.length x.2.1) x.1 else x.1) /\ y.2.1 = hasP x.2.1 x.1) /\ True
theorem e42 : t42 = Con.vc c_strings_CutPrefix GL (mkEnv ty [(70, conSem c_stringslite_CutPrefix)] [] [] [0, 1, 4, 5]) {} Tryz.f42.ntmps Tryz.f42.results.toList (bodyOf Tryz.f42) := by kernel_rfl
theorem k42 : t42 := by
  unfold t42
  delta q2 q31 q5 wsZ wbZ
  rintro ⟨l, c, _⟩ hx hp
  try dsimp +instances only [dft_int, dft_sl, dft_str]
  simp only [true_and, and_true, eq_self_iff_true, implies_true, reduceCtorEq, false_implies, true_implies, decide_eq_true_eq, decide_eq_false_iff_not, beq_self_eq_true, Bool.not_eq_true', ne_eq, Decidable.not_not, List.nil_append, List.length_singleton, List.length_cons, List.length_nil, Nat.zero_add, Nat.add_zero, Nat.mul_one, and_self, beq_iff_eq, Bool.not_true, Bool.not_false, Bool.not_eq_false', Bool.cond_false_right, Bool.and_eq_true, imp_self, Bool.not_eq_true, Bool.cond_true_left, Bool.or_eq_true]
theorem h42 : c_strings_CutPrefix.ok Tryz.prog GL 42 := con_ok (H := {}) (mkEnv_ok (gl := GL) (l := [(70, conSem c_stringslite_CutPrefix)]) (q := []) (d := []) _ tyOk (by kernel_rfl) ⟨h70.call, trivial⟩ trivial trivial) (by kernel_rfl) (by kernel_rfl) (Eq.mp e42 k42)
end Go.Proofs.YtgnlcpoeepfdoaaGreatDoor
end
section
namespace Go.Proofs.YtgnlcpoeepfdoaaGreatDoor
open Go Go.Vc Go.Pl Go.Proofs
def c_utf8_DecodeRuneInString : Con := { args := [.dat .str], res := [.dat I32, .dat I64], pre := fun _ => True, post := fun x y => y.1 = (decD x.1).1 ∧ y.2.1 = (decD x.1).2 }
def c_utf8_decodeRuneInStringSlow : Con := { args := [.dat .str], res := [.dat I32, .dat I64], pre := fun _ => True, post := fun x y => y.1 = (decD x.1).1 ∧ y.2.1 = (decD x.1).2 }
def c_text_Valid : Con := { args := [.dat .str], res := [.dat I64], pre := fun _ => True, post := fun x y => y.1 = vld x.1 0 }
def c_text_small : Con := { args := [.dat U8], res := [.dat U8], pre := fun _ => True, post := fun x y => y.1 = smallD x.1 }
def c_text_prints : Con := { args := [.dat U8], res := [.dat .bool], pre := fun _ => True, post := fun x y => y.1 = printsD x.1 }
def c_text_Fold : Con := { args := [.dat .str], res := [.dat .str], pre := fun x => x.1.length ≤ 100000000, post := fun x y => y.1 = foldD x.1 }
def c_text_Same : Con := { args := [.dat .str, .dat .str], res := [.dat .bool], pre := fun x => x.1.length ≤ 100000000 ∧ x.2.1.length ≤ 100000000, post := fun x y => y.1 = decide (foldD x.1 = foldD x.2.1) }
def c_text_May : Con := { args := [.dat I64, .dat .str], res := [.dat .bool], pre := fun _ => True, post := fun x y => y.1 = mayD x.1 x.2.1 }
def c_text_Kind : Con := { args := [.dat .str], res := [.dat I64, .dat I64], pre := fun _ => True, post := fun x y => y.1 = (kindD x.1).1 ∧ y.2.1 = (kindD x.1).2 }
end Go.Proofs.YtgnlcpoeepfdoaaGreatDoor
end
section
namespace Go.Proofs.YtgnlcpoeepfdoaaGreatDoor
open Go Go.Vc Go.Pl Go.Proofs
set_option linter.unusedVariables false
set_option linter.unusedSimpArgs false
abbrev wyZ (x : List Int) : Prop := Kd.wf (Kd.sl (Kd.int IntKind.u8)) x
abbrev q6 := (List Int × Unit)
abbrev q7 := (Int × Int × Unit)
abbrev q8 := (Int × Bool × Unit -> Unit -> Prop)
abbrev q9 := (Int × Bool × Unit -> Unit -> Nat)
abbrev q10 := (Int × Bool × Unit)
abbrev q11 := (Int × Unit -> Unit × (List Int × Unit) × List Int × Unit -> Prop)
abbrev q12 := (Int × Unit -> Unit × (List Int × Unit) × List Int × Unit -> Nat)
abbrev q13 := (Unit × (List Int × Unit) × List Int × Unit)
abbrev q14 := (Int × Unit -> Unit × Unit × Unit -> Prop)
abbrev q15 := (Unit × Unit × Unit)
abbrev q308 := (0 : Int)
abbrev q325 (p0 : q6) := (Int.toNat (List.getD p0.1 (0 : Nat) (0 : Int)))
abbrev q316 (p0 : q6) := (Int.toNat (Int.fdiv (List.getD Lib.firstTab (q325 p0) (Kd.dft (Kd.int IntKind.u8))) ((2 : Int) ^ (4 : Nat))))
abbrev q269 (p0 : q6) := (List.getD p0.1 (1 : Nat) q308 < (List.getD accTab (q316 p0) (Kd.dft (Kd.pair q298 q298))).1)
abbrev q270 (p0 : q6) := (List.getD accTab (q316 p0) (Kd.dft (Kd.pair q298 q298)))
abbrev q45 (p0 : q6) := (bif decide (q269 p0) then true else decide ((q270 p0).2 < List.getD p0.1 (1 : Nat) q236))
abbrev q46 (p0 : q6) := (decide (q269 p0) = false -> True)
abbrev q47 (p0 : q6) := (decide (q269 p0) == false)
abbrev q48 (p0 : q6) := (List.getD p0.1 (1 : Nat) q236 < (q270 p0).1)
abbrev q299 := (8 : Nat)
abbrev q302 (p0 : q6) := (List.getD Lib.firstTab (q325 p0) (Kd.dft (Kd.int IntKind.u8)))
abbrev q271 (p0 : q6) := (IntKind.wrap IntKind.u8 (↑(BitVec.toNat (BitVec.ofInt q299 (q302 p0) &&& BitVec.ofInt q299 (7 : Int))) : Int))
abbrev q49 (p0 : q6) := ((lnZ p0.1) < wrZ (q271 p0))
abbrev q248 := (2 : Int)
abbrev q50 (p0 : q6) := (wrZ (q271 p0) <= q248)
abbrev q51 (p0 : q6) := (wrZ (q271 p0) <= (3 : Int))
abbrev q52 (p0 : q6) := (Int.fdiv (IntKind.wrap IntKind.i32 (IntKind.wrap IntKind.i32 (q302 p0) * q248 ^ (31 : Nat))) (q248 ^ (31 : Nat)))
abbrev q53 (p0 : q6) := (IntKind.wrap IntKind.u8 (↑(BitVec.toNat (BitVec.ofInt q299 (List.getD p0.1 (1 : Nat) q236) &&& BitVec.ofInt q299 (63 : Int))) : Int))
abbrev q267 := (2 : Nat)
abbrev q54 (p0 : q6) := (IntKind.wrap IntKind.u8 (↑(BitVec.toNat (BitVec.ofInt q299 (List.getD p0.1 q267 q236) &&& BitVec.ofInt q299 (63 : Int))) : Int))
abbrev q239 := (128 : Int)
abbrev q55 (p0 : q6) := (bif decide (List.getD p0.1 q267 q236 < q239) then true else decide ((191 : Int) < List.getD p0.1 q267 q236))
abbrev q56 (p0 : q6) := (bif decide (List.getD p0.1 (3 : Nat) q236 < q239) then true else decide ((191 : Int) < List.getD p0.1 (3 : Nat) q236))
abbrev q272 := (Kd.dft q298)
abbrev q57 (p0 : q6) := ((240 : Int) <= List.getD Lib.firstTab (q325 p0) q272)
abbrev q58 (p0 : q6) := (List.getD Lib.firstTab (q325 p0) q272)
abbrev q59 (p0 : q6) := (List.getD p0.1 q267 q236 < q239)
abbrev q60 (p0 : q6) := (List.getD p0.1 (3 : Nat) q236 < q239)
abbrev q61 (p0 : q6) := (q236 <= q236 /\ q236 < (lnZ p0.1))
abbrev q240 := (1 : Int)
abbrev q62 (p0 : q6) := (q236 <= q240 /\ q240 < (lnZ p0.1))
abbrev q63 (p0 : q6) := (List.getD p0.1 q252 q236)
abbrev q64 (p0 : q6) := (wsZ p0.1 /\ True)
abbrev q65 := (65536 : Nat)
abbrev q66 := (1 : Int)
abbrev q67 := (0 : Nat)
abbrev q68 := (2 : Nat)
abbrev q69 := (2 : Int)
abbrev q70 (p0 : q6) := (bif decide (p0.1 ≠ bs { data := #[] }) then decide (List.getD p0.1 q252 q236 < q239) else false)
abbrev q71 (p0 : q6) := (p0.1 ≠ bs { data := #[] })
abbrev q237 := (65 : Int)
abbrev q72 (p0 : q1) := ((bif decide (q237 <= p0.1) then decide (p0.1 <= (90 : Int)) else false) = false -> p0.1 = smallD p0.1)
abbrev q73 (p0 : q1) := (decide (q237 <= p0.1) = true -> (decide (q237 <= p0.1) == true) = true /\ True)
abbrev q74 (p0 : q1) := (decide (q237 <= p0.1) = true -> (decide (q237 <= p0.1) == true) = true)
abbrev q75 (p0 : q1) := (bif decide (q237 <= p0.1) then decide (p0.1 <= (90 : Int)) else false)
abbrev q76 (p0 : q1) := (Kd.wf q298 p0.1 /\ True)
abbrev q77 (p0 : q1) := (bif decide ((97 : Int) <= p0.1) then decide (p0.1 <= (122 : Int)) else false)
abbrev q78 (p0 : q1) := (bif decide ((48 : Int) <= p0.1) then decide (p0.1 <= (57 : Int)) else false)
abbrev q79 (p0 : q10) := (wiZ p0.1 /\ wbZ p0.2.1 /\ True)
abbrev q80 (p0 : q1) (p1 : q1) (p2 : q13) (p3 : q1) := (List.getD (List.drop (Int.toNat p0.1) (List.take (Int.toNat (wrZ (p0.1 + p1.1))) p2.2.1.1)) (Int.toNat p3.1) q236)
abbrev q81 (p0 : q1) (p1 : q1) (p2 : q13) := (lnZ (List.drop (Int.toNat p0.1) (List.take (Int.toNat (wrZ (p0.1 + p1.1))) p2.2.1.1)))
abbrev q82 (p0 : q1) (p1 : q1) (p2 : q13) := (List.take (Int.toNat (wrZ (p0.1 + p1.1))) p2.2.1.1)
abbrev q83 (p0 : q1) := (decide (q236 < p0.1) = true -> True)
abbrev q84 (p0 : q1) := (decide (q236 < p0.1) == true)
abbrev q85 := (9223372036854775807 : Nat)
abbrev q86 := (140737488355328 : Nat)
abbrev q87 := (100000000 : Nat)
abbrev q88 (p0 : q1) := (q236 < p0.1)
abbrev q89 := (List Int × Unit)
abbrev q238 (p0 : q1) := (p0.1 ≠ q308)
def t100 : Prop :=
  ∀ (x : q6), (q64 x) -> True -> (decide ((lnZ x.1) < q66) = true -> (65533 : Int) = (decD x.1).1 /\ q33 = (decD x.1).2) /\ (decide ((lnZ x.1) < q66) = false -> (q61 x) /\ (q33 <= List.getD
  x.1 q67 q33 /\ List.getD x.1 q67 q33 < (↑(256 : Nat) : Int) /\ List.getD x.1 q67 q33 < (↑(256 : Nat) : Int)) /\ (decide (q57 x) = true -> q33 <= (31 : Int) /\ q33 <= (31 : Int) /\ (q61 x)
  /\ IntKind.wrap IntKind.i32 (↑(BitVec.toNat (BitVec.ofInt (32 : Nat) (IntKind.wrap IntKind.i32 (↑(BitVec.toNat (BitVec.ofInt (32 : Nat) (IntKind.wrap IntKind.i32 (q63 x)) &&&
  ~~~BitVec.ofInt (32 : Nat) (q52 x))) : Int)) ||| BitVec.ofInt (32 : Nat) (IntKind.wrap IntKind.i32 (↑(BitVec.toNat (BitVec.ofInt (32 : Nat) (65533 : Int) &&& BitVec.ofInt (32 : Nat) (q52
  x))) : Int)))) : Int) = (decD x.1).1 /\ q66 = (decD x.1).2) /\ (decide (q57 x) = false -> q33 <= (4 : Int) /\ (q33 <= Int.fdiv (q58 x) ((2 : Int) ^ (4 : Nat)) /\ Int.fdiv (q58 x) ((2 : Int)
  ^ (4 : Nat)) < (↑(16 : Nat) : Int) /\ Int.fdiv (q58 x) ((2 : Int) ^ (4 : Nat)) < (↑(16 : Nat) : Int)) /\ q68 <= q65 /\ (decide (q49 x) = true -> (65533 : Int) = (decD x.1).1 /\ q66 = (decD
  x.1).2) /\ (decide (q49 x) = false -> (q62 x) /\ (q46 x) /\ (decide (q48 x) = false -> (q47 x) = true /\ True) /\ (q46 x) /\ (decide (q48 x) = false -> (q47 x) = true /\ (q47 x) = true /\
  True) /\ (decide (q48 x) = false -> (q47 x) = true) /\ ((q45 x) = true -> (65533 : Int) = (decD x.1).1 /\ q66 = (decD x.1).2) /\ ((q45 x) = false -> (decide (q50 x) = true -> q33 <= (6 :
  Int) /\ IntKind.wrap IntKind.i32 (↑(BitVec.toNat (BitVec.ofInt (32 : Nat) (IntKind.wrap IntKind.i32 (IntKind.wrap IntKind.i32 (IntKind.wrap IntKind.u8 (↑(BitVec.toNat (BitVec.ofInt q299
  (q63 x) &&& BitVec.ofInt q299 (31 : Int))) : Int)) * q69 ^ (6 : Nat))) ||| BitVec.ofInt (32 : Nat) (IntKind.wrap IntKind.i32 (q53 x)))) : Int) = (decD x.1).1 /\ q69 = (decD x.1).2) /\
  (decide (q50 x) = false -> (q33 <= q69 /\ q69 < (lnZ x.1)) /\ (decide (q59 x) = false -> True) /\ (decide (q59 x) = false -> (decide (q59 x) == false) = true /\ True) /\ (decide (q59 x) =
  false -> (decide (q59 x) == false) = true) /\ ((q55 x) = true -> (65533 : Int) = (decD x.1).1 /\ q66 = (decD x.1).2) /\ ((q55 x) = false -> (decide (q51 x) = true -> q33 <= (12 : Int) /\
  q33 <= (6 : Int) /\ IntKind.wrap IntKind.i32 (↑(BitVec.toNat (BitVec.ofInt (32 : Nat) (IntKind.wrap IntKind.i32 (↑(BitVec.toNat (BitVec.ofInt (32 : Nat) (IntKind.wrap IntKind.i32
  (IntKind.wrap IntKind.i32 (IntKind.wrap IntKind.u8 (↑(BitVec.toNat (BitVec.ofInt q299 (q63 x) &&& BitVec.ofInt q299 (15 : Int))) : Int)) * q69 ^ (12 : Nat))) ||| BitVec.ofInt (32 : Nat)
  (IntKind.wrap IntKind.i32 (IntKind.wrap IntKind.i32 (q53 x) * q69 ^ (6 : Nat))))) : Int)) ||| BitVec.ofInt (32 : Nat) (IntKind.wrap IntKind.i32 (q54 x)))) : Int) = (decD x.1).1 /\ (3 : Int)
  = (decD x.1).2) /\ (decide (q51 x) = false -> (q33 <= (3 : Int) /\ (3 : Int) < (lnZ x.1)) /\ (decide (q60 x) = false -> True) /\ (decide (q60 x) = false -> (decide (q60 x) == false) = true
  /\ True) /\ (decide (q60 x) = false -> (decide (q60 x) == false) = true) /\ ((q56 x) = true -> (65533 : Int) = (decD x.1).1 /\ q66 = (decD x.1).2) /\ ((q56 x) = false -> q33 <= (18 : Int)
  /\ q33 <= (12 : Int) /\ q33 <= (6 : Int) /\ IntKind.wrap IntKind.i32 (↑(BitVec.toNat (BitVec.ofInt (32 : Nat) (IntKind.wrap IntKind.i32 (↑(BitVec.toNat (BitVec.ofInt (32 : Nat)
  (IntKind.wrap IntKind.i32 (↑(BitVec.toNat (BitVec.ofInt (32 : Nat) (IntKind.wrap IntKind.i32 (IntKind.wrap IntKind.i32 (IntKind.wrap IntKind.u8 (↑(BitVec.toNat (BitVec.ofInt q299 (q63 x)
  &&& BitVec.ofInt q299 (7 : Int))) : Int)) * q69 ^ (18 : Nat))) ||| BitVec.ofInt (32 : Nat) (IntKind.wrap IntKind.i32 (IntKind.wrap IntKind.i32 (q53 x) * q69 ^ (12 : Nat))))) : Int)) |||
  BitVec.ofInt (32 : Nat) (IntKind.wrap IntKind.i32 (IntKind.wrap IntKind.i32 (q54 x) * q69 ^ (6 : Nat))))) : Int)) ||| BitVec.ofInt (32 : Nat) (IntKind.wrap IntKind.i32 (IntKind.wrap
  IntKind.u8 (↑(BitVec.toNat (BitVec.ofInt q299 (List.getD x.1 (3 : Nat) q33) &&& BitVec.ofInt q299 (63 : Int))) : Int))))) : Int) = (decD x.1).1 /\ (4 : Int) = (decD x.1).2))))))))
theorem e100 : t100 = Con.vc c_utf8_decodeRuneInStringSlow GL (mkEnv ty [] [] [] [0, 2, 3, 4, 5, 6, 7, 8, 9, 10, 11, 12, 16, 23, 45, 57, 59, 75, 77, 98]) {} Tryz.f100.ntmps Tryz.f100.results.toList (bodyOf Tryz.f100) := by kernel_rfl
theorem k100 : t100 := by
  unfold t100
  delta q6 q64 lnZ q66 q33 q61 q67 q57 q63 q52 q58 q68 q65 q49 q62 q46 q48 q47 q45 q50 q299 q69 q53 q59 q55 q51 q54 q60 q56 wsZ q236 q325 q272 q252 q302 q248 wrZ q271 q240 q269 q270 q267 q239 q298 q308 q316
  rintro ⟨l, _⟩ hx hp
  have hw : Kd.wf Kd.str l := hx.1
  try dsimp +instances only [dft_int, dft_sl, dft_str]
  simp only [true_and, and_true, eq_self_iff_true, implies_true, reduceCtorEq, false_implies, true_implies, decide_eq_true_eq, decide_eq_false_iff_not, beq_self_eq_true, Bool.not_eq_true', ne_eq, Decidable.not_not, List.nil_append, List.length_singleton, List.length_cons, List.length_nil, Nat.zero_add, Nat.add_zero, Nat.mul_one, and_self, beq_iff_eq, Bool.not_true, Bool.not_false, Bool.not_eq_false', Bool.cond_false_right, Bool.and_eq_true, imp_self, Bool.not_eq_true, Bool.cond_true_left, Bool.or_eq_true]
  simp only [Bool.or_eq_false_iff, decide_eq_false_iff_not]
  refine ⟨fun h => ?_, fun hne => ?_⟩
  . have : l = [] := List.eq_nil_of_length_eq_zero (by omega)
    subst this
    exact ⟨rfl, rfl⟩
  have hl : 1 ≤ l.length := by omega
  have hD : decD l = (((udec l 0).1 : Int), ((udec l 0).2 : Int)) := by rw [decD, if_neg (fun e => by rw [e] at hl; simp at hl)]
  have hu : udec l 0 = Lib.decodeN l.length (l.getD 0 0).toNat (l.getD 1 0).toNat (l.getD 2 0).toNat (l.getD 3 0).toNat := rfl
  rw [hD, hu]
  obtain ⟨b0, e0, g0⟩ := nat_of l hw 0
  obtain ⟨b1, e1, g1⟩ := nat_of l hw 1
  obtain ⟨b2, e2, g2⟩ := nat_of l hw 2
  obtain ⟨b3, e3, g3⟩ := nat_of l hw 3
  rw [e0, e1, e2, e3, Int.toNat_natCast, Int.toNat_natCast, Int.toNat_natCast, Int.toNat_natCast, first_get b0 g0]
  obtain ⟨f1, f2, f3⟩ := first_sz b0
  generalize hn : l.length = n at *
  refine ⟨⟨by decide, by omega⟩, ⟨by omega, by omega⟩, fun hF => ?_, fun hF => ?_⟩
  . have hF : 240 ≤ Lib.firstT b0 := by omega
    refine ⟨by decide, by decide, ⟨by decide, by omega⟩, ?_⟩
    rw [mask_eq b0 g0 hF]
    rcases f2 hF with h | h
    . rw [if_pos h, Lib.ascii_eq _ _ _ _ _ h]; exact ⟨rfl, rfl⟩
    . rw [if_neg (by omega), Lib.bad_eq _ _ _ _ _ g0 h]; exact ⟨rfl, rfl⟩
  . have hF : Lib.firstT b0 < 240 := by omega
    obtain ⟨s2, s4⟩ := f3 hF
    have hs := Lib.slow_eq n b0 b1 b2 b3 (by omega) g1 g2 g3 hF
    have hm : IntKind.i64.wrap (IntKind.u8.wrap ↑(BitVec.ofInt 8 (Lib.firstT b0 : Int) &&& BitVec.ofInt 8 7).toNat) = ((Lib.firstT b0 % 8 : Nat) : Int) := by
      rw [and_7 _ (by omega), wrapK _ (by omega) (by omega)]
    have hfd : (Lib.firstT b0 : Int).fdiv (2 ^ 4) = ((Lib.firstT b0 / 16 : Nat) : Int) := by
      rw [Int.fdiv_eq_ediv_of_nonneg _ (by decide)]
      omega
    have hac : Lib.firstT b0 / 16 < 16 := by omega
    rw [hm, hfd, Int.toNat_natCast, acc_get _ hac, ← hs]
    generalize Lib.firstT b0 % 8 = sz at *
    generalize Lib.firstT b0 / 16 = ac at *
    simp only
    refine ⟨by decide, ⟨by omega, by omega⟩, by decide, fun h => ?_, fun h => ⟨⟨by decide, by omega⟩, fun hb => ?_, fun hb => ⟨fun hz => ?_, fun hz => ⟨⟨by decide, by omega⟩, fun hc => ?_, fun hc => ⟨fun hz3 => ?_, fun hz3 => ⟨⟨by decide, by omega⟩, fun hd => ?_, fun hd => ?_⟩⟩⟩⟩⟩⟩
    . rw [Lib.slowN, if_pos (by omega)]; exact ⟨rfl, rfl⟩
    . rw [Lib.slowN, if_neg (by omega), if_pos (by omega)]; exact ⟨rfl, rfl⟩
    . rw [Lib.slowN, if_neg (by omega), if_neg (by omega), if_pos (by omega)]
      refine ⟨by decide, ?_, rfl⟩
      rw [and_31 b0 g0, and_63 b1 g1, or2 _ _ (by omega) (by omega)]
    . rw [Lib.slowN, if_neg (by omega), if_neg (by omega), if_neg (by omega), if_pos (by omega)]; exact ⟨rfl, rfl⟩
    . rw [Lib.slowN, if_neg (by omega), if_neg (by omega), if_neg (by omega), if_neg (by omega), if_pos (by omega)]
      refine ⟨by decide, by decide, ?_, rfl⟩
      rw [and_15 b0 g0, and_63 b1 g1, and_63 b2 g2, or3 _ _ _ (by omega) (by omega) (by omega)]
    . rw [Lib.slowN, if_neg (by omega), if_neg (by omega), if_neg (by omega), if_neg (by omega), if_neg (by omega), if_pos (by omega)]; exact ⟨rfl, rfl⟩
    . rw [Lib.slowN, if_neg (by omega), if_neg (by omega), if_neg (by omega), if_neg (by omega), if_neg (by omega), if_neg (by omega)]
      refine ⟨by decide, by decide, by decide, ?_, rfl⟩
      rw [and_7 b0 g0, and_63 b1 g1, and_63 b2 g2, and_63 b3 g3, or4 _ _ _ _ (by omega) (by omega) (by omega) (by omega)]
theorem h100 : c_utf8_decodeRuneInStringSlow.ok Tryz.prog GL 100 := con_ok (H := {}) (mkEnv_ok (gl := GL) (l := []) (q := []) (d := []) _ tyOk (by kernel_rfl) trivial trivial trivial) (by kernel_rfl) (by kernel_rfl) (Eq.mp e100 k100)
def t79 : Prop :=
  ∀ (x : q6), (q64 x) -> True -> (decide (q71 x) = true -> True) /\ (decide (q71 x) = true -> (decide (q71 x) == true) = true /\ (q61 x) /\ True) /\ (decide (q71 x) = true -> (decide (q71 x)
  == true) = true /\ True) /\ (decide (q71 x) = true -> (decide (q71 x) == true) = true) /\ ((q70 x) = true -> (q61 x) /\ IntKind.wrap IntKind.i32 (q63 x) = (decD x.1).1 /\ q66 = (decD
  x.1).2) /\ ((q70 x) = false -> True /\ (∀ (y : q7), (Kd.wf (Kd.int IntKind.i32) y.1 /\ wiZ y.2.1 /\ True) -> y.1 = (decD x.1).1 /\ y.2.1 = (decD x.1).2 -> y.1 = (decD x.1).1 /\ y.2.1 =
  (decD x.1).2) /\ True)
theorem e79 : t79 = Con.vc c_utf8_DecodeRuneInString GL (mkEnv ty [(100, conSem c_utf8_decodeRuneInStringSlow)] [] [] [0, 2, 3, 10]) {} Tryz.f79.ntmps Tryz.f79.results.toList (bodyOf Tryz.f79) := by kernel_rfl
theorem k79 : t79 := by
  unfold t79
  delta q6 q64 q71 q61 q70 q63 q66 q7 wiZ wsZ q236 lnZ q252 q239
  rintro ⟨l, _⟩ hx hp
  have hw : Kd.wf Kd.str l := hx.1
  try dsimp +instances only [dft_int, dft_sl, dft_str]
  simp only [true_and, and_true, eq_self_iff_true, implies_true, reduceCtorEq, false_implies, true_implies, decide_eq_true_eq, decide_eq_false_iff_not, beq_self_eq_true, Bool.not_eq_true', ne_eq, Decidable.not_not, List.nil_append, List.length_singleton, List.length_cons, List.length_nil, Nat.zero_add, Nat.add_zero, Nat.mul_one, and_self, beq_iff_eq, Bool.not_true, Bool.not_false, Bool.not_eq_false', Bool.cond_false_right, Bool.and_eq_true, imp_self, Bool.not_eq_true, Bool.cond_true_left, Bool.or_eq_true]
  rw [bs_nil]
  refine ⟨fun h => ⟨h, by decide, by have := List.length_pos_iff.2 h; omega⟩, fun h => ⟨⟨by decide, by have := List.length_pos_iff.2 h.1; omega⟩, ?_⟩⟩
  have hb := str_get hw 0
  have hu := udec_ascii l 0 (by omega)
  rw [decD, if_neg h.1, hu]
  refine ⟨?_, rfl⟩
  show _ = (((l.getD 0 0).toNat : Nat) : Int)
  have h2 := h.2
  generalize l.getD 0 0 = b at hb h2 ⊢
  simp [IntKind.wrap, IntKind.signed, IntKind.bits]
  omega
theorem h79 : c_utf8_DecodeRuneInString.ok Tryz.prog GL 79 := con_ok (H := {}) (mkEnv_ok (gl := GL) (l := [(100, conSem c_utf8_decodeRuneInStringSlow)]) (q := []) (d := []) _ tyOk (by kernel_rfl) ⟨h100.call, trivial⟩ trivial trivial) (by kernel_rfl) (by kernel_rfl) (Eq.mp e79 k79)
def t155 : Prop :=
  ∀ (x : q6), (q64 x) -> True -> ∃ (I : Int × Unit -> Nat × Unit -> Prop), ∃ (μ : Int × Unit -> Nat × Unit -> Nat), (x.1 = x.1 /\ x.1 = x.1 /\ I (q33, ()) (q67, ())) /\ ∀ (y : q1) (z : Nat ×
  Unit), (q30 y) -> True -> I y z -> (z.1 < List.length x.1 -> (decide ((↑(udec x.1 z.1).1 : Int) ≠ (65533 : Int)) = true -> x.1 = x.1 /\ x.1 = x.1 /\ I (y.1, ()) (z.1 + (udec x.1 z.1).2, ())
  /\ μ (y.1, ()) (z.1 + (udec x.1 z.1).2, ()) < μ y z) /\ (decide ((↑(udec x.1 z.1).1 : Int) ≠ (65533 : Int)) = false -> (q33 <= (↑z.1 : Int) /\ (↑z.1 : Int) <= (lnZ x.1)) /\ True /\ (∀ (y_1
  : q7), (Kd.wf (Kd.int IntKind.i32) y_1.1 /\ wiZ y_1.2.1 /\ True) -> y_1.1 = (decD (List.drop (Int.toNat (↑z.1 : Int)) x.1)).1 /\ y_1.2.1 = (decD (List.drop (Int.toNat (↑z.1 : Int)) x.1)).2
  -> (decide (y_1.2.1 = q66) = true -> (↑z.1 : Int) = (↑(vld x.1 q67) : Int)) /\ (decide (y_1.2.1 = q66) = false -> x.1 = x.1 /\ x.1 = x.1 /\ I (y.1, ()) (z.1 + (udec x.1 z.1).2, ()) /\ μ
  (y.1, ()) (z.1 + (udec x.1 z.1).2, ()) < μ y z)) /\ True)) /\ (List.length x.1 <= z.1 -> (lnZ x.1) = (↑(vld x.1 q67) : Int))
theorem e155 : t155 = Con.vc c_text_Valid GL (mkEnv ty [(79, conSem c_utf8_DecodeRuneInString)] [] [] [0, 2, 3, 4, 6, 8, 9, 10, 14, 23]) {} Tryz.f155.ntmps Tryz.f155.results.toList (bodyOf Tryz.f155) := by kernel_rfl
theorem k155 : t155 := by
  unfold t155
  delta q6 q64 q33 q67 q1 q30 lnZ q7 wiZ q66 wsZ
  rintro ⟨l, _⟩ hx hp
  have hw : Kd.wf Kd.str l := hx.1
  try dsimp +instances only [dft_int, dft_sl, dft_str]
  simp only [true_and, and_true, eq_self_iff_true, implies_true, reduceCtorEq, false_implies, true_implies, decide_eq_true_eq, decide_eq_false_iff_not, beq_self_eq_true, Bool.not_eq_true', ne_eq, Decidable.not_not, List.nil_append, List.length_singleton, List.length_cons, List.length_nil, Nat.zero_add, Nat.add_zero, Nat.mul_one, and_self, beq_iff_eq, Bool.not_true, Bool.not_false, Bool.not_eq_false', Bool.cond_false_right, Bool.and_eq_true, imp_self, Bool.not_eq_true, Bool.cond_true_left, Bool.or_eq_true]
  refine ⟨fun _ z => z.1 ≤ l.length ∧ vld l 0 = vld l z.1, fun _ z => l.length - z.1, ⟨Nat.zero_le _, rfl⟩, ?_⟩
  rintro ⟨r, _⟩ ⟨i, _⟩ _ ⟨h0, h1⟩
  simp only at h0 h1 ⊢
  refine ⟨fun hlt => ?_, fun hge => ?_⟩
  . have hu := udec_w l i hlt
    have go : ¬ ((udec l i).1 = 65533 ∧ (udec l i).2 = 1) → (i + (udec l i).2 ≤ l.length ∧ vld l 0 = vld l (i + (udec l i).2)) ∧ l.length - (i + (udec l i).2) < l.length - i := fun h => by
      have hc : chw l i = (udec l i).2 := by rw [chw, if_neg h]
      have := vld_step hlt (by rw [hc]; omega)
      rw [hc] at this
      exact ⟨⟨hu.2.2, by rw [h1, this]⟩, by omega⟩
    refine ⟨fun h => go (fun hc => h (by omega)), fun h => ⟨⟨by omega, by omega⟩, ?_⟩⟩
    rintro ⟨a, b, _⟩ _ ⟨ea, eb⟩
    simp only at ea eb ⊢
    rw [Int.toNat_natCast, dec_drop l i hlt] at ea eb
    simp only at ea eb
    refine ⟨fun hb => ?_, fun hb => go (fun hc => hb (by omega))⟩
    rw [h1, vld_stop (fun hc => hc.2 (by rw [chw, if_pos (by omega)]))]
  . rw [h1, vld_stop (fun hc => by omega)]
    omega
theorem h155 : c_text_Valid.ok Tryz.prog GL 155 := con_ok (H := {}) (mkEnv_ok (gl := GL) (l := [(79, conSem c_utf8_DecodeRuneInString)]) (q := []) (d := []) _ tyOk (by kernel_rfl) ⟨h79.call, trivial⟩ trivial trivial) (by kernel_rfl) (by kernel_rfl) (Eq.mp e155 k155)
def t152 : Prop :=
  ∀ (x : q1), (q76 x) -> True -> (decide (q237 <= x.1) = true -> True) /\ (q73 x) /\ (q74 x) /\ ((q75 x) = true -> IntKind.wrap IntKind.u8 (IntKind.wrap IntKind.u8 (x.1 + (97 : Int)) - q237)
  = smallD x.1) /\ (q72 x)
theorem e152 : t152 = Con.vc c_text_small GL (mkEnv ty [] [] [] [0, 2, 8]) {} Tryz.f152.ntmps Tryz.f152.results.toList (bodyOf Tryz.f152) := by kernel_rfl
theorem k152 : t152 := by
  unfold t152
  delta q1 q76 q237 q73 q74 q75 q72 q298
  rintro ⟨l, _⟩ hx hp
  try dsimp +instances only [dft_int, dft_sl, dft_str]
  simp only [true_and, and_true, eq_self_iff_true, implies_true, reduceCtorEq, false_implies, true_implies, decide_eq_true_eq, decide_eq_false_iff_not, beq_self_eq_true, Bool.not_eq_true', ne_eq, Decidable.not_not, List.nil_append, List.length_singleton, List.length_cons, List.length_nil, Nat.zero_add, Nat.add_zero, Nat.mul_one, and_self, beq_iff_eq, Bool.not_true, Bool.not_false, Bool.not_eq_false', Bool.cond_false_right, Bool.and_eq_true, imp_self, Bool.not_eq_true, Bool.cond_true_left, Bool.or_eq_true]
  refine ⟨fun h => ?_, fun h => ?_⟩
  . rw [smallD, if_pos h]
    simp [IntKind.wrap, IntKind.signed, IntKind.bits]
    omega
  . rw [smallD, if_neg (fun hc => by
      rcases Bool.and_eq_false_iff.1 h with h | h
      . exact of_decide_eq_false h hc.1
      . exact of_decide_eq_false h hc.2)]
theorem h152 : c_text_small.ok Tryz.prog GL 152 := con_ok (H := {}) (mkEnv_ok (gl := GL) (l := []) (q := []) (d := []) _ tyOk (by kernel_rfl) trivial trivial trivial) (by kernel_rfl) (by kernel_rfl) (Eq.mp e152 k152)
def t156 : Prop :=
  ∀ (x : q1), (q76 x) -> True -> (decide ((97 : Int) <= x.1) = true -> True) /\ (decide ((97 : Int) <= x.1) = true -> (decide ((97 : Int) <= x.1) == true) = true /\ True) /\ (decide ((97 :
  Int) <= x.1) = true -> (decide ((97 : Int) <= x.1) == true) = true) /\ ((q77 x) = true -> true = printsD x.1) /\ ((q77 x) = false -> (decide (q237 <= x.1) = true -> True) /\ (q73 x) /\ (q74
  x) /\ ((q75 x) = true -> true = printsD x.1) /\ ((q75 x) = false -> (decide ((48 : Int) <= x.1) = true -> True) /\ (decide ((48 : Int) <= x.1) = true -> (decide ((48 : Int) <= x.1) == true)
  = true /\ True) /\ (decide ((48 : Int) <= x.1) = true -> (decide ((48 : Int) <= x.1) == true) = true) /\ ((q78 x) = true -> true = printsD x.1) /\ ((q78 x) = false -> (decide (q238 x) =
  true -> True) /\ (decide (q238 x) = true -> (decide (q238 x) == true) = true /\ True /\ (∀ (y : q1), (q30 y) -> y.1 = idxB (bs { data := #[(32 : UInt8), (39 : UInt8), (40 : UInt8), (41 :
  UInt8), (43 : UInt8), (44 : UInt8), (45 : UInt8), (46 : UInt8), (47 : UInt8), (58 : UInt8), (61 : UInt8), (63 : UInt8)] }) x.1 -> decide (q236 <= y.1) = printsD x.1) /\ True) /\ (decide
  (q238 x) = !true -> false = printsD x.1))))
theorem e156 : t156 = Con.vc c_text_prints GL (mkEnv ty [(88, conSem c_strings_IndexByte)] [] [] [0, 2, 3]) {} Tryz.f156.ntmps Tryz.f156.results.toList (bodyOf Tryz.f156) := by kernel_rfl
theorem k156 : t156 := by
  unfold t156
  delta q1 q76 q77 q237 q73 q74 q75 q78 q238 q30 q236 q298 q308 wiZ
  rintro ⟨c, _⟩ hx hp
  have hc : 0 ≤ c ∧ c ≤ 255 := by
    have h : InR .u8 c := hx.1
    simpa [InR, IntKind.min, IntKind.max, IntKind.signed, IntKind.bits] using h
  try dsimp +instances only [dft_int, dft_sl, dft_str]
  simp only [true_and, and_true, eq_self_iff_true, implies_true, reduceCtorEq, false_implies, true_implies, decide_eq_true_eq, decide_eq_false_iff_not, beq_self_eq_true, Bool.not_eq_true', ne_eq, Decidable.not_not, List.nil_append, List.length_singleton, List.length_cons, List.length_nil, Nat.zero_add, Nat.add_zero, Nat.mul_one, and_self, beq_iff_eq, Bool.not_true, Bool.not_false, Bool.not_eq_false', Bool.cond_false_right, Bool.and_eq_true, imp_self, Bool.not_eq_true, Bool.cond_true_left, Bool.or_eq_true]
  have key : ∀ c : Fin 256, decide (0 ≤ idxB (bs { data := #[32, 39, 40, 41, 43, 44, 45, 46, 47, 58, 61, 63] }) (c.val : Int)) = true → printsD (c.val : Int) = true := by decide +kernel
  have key2 : ∀ c : Fin 256, ((decide (97 ≤ (c.val : Int)) && decide ((c.val : Int) ≤ 122)) = false) → ((decide (65 ≤ (c.val : Int)) && decide ((c.val : Int) ≤ 90)) = false) → ((decide (48 ≤ (c.val : Int)) && decide ((c.val : Int) ≤ 57)) = false) → decide (0 ≤ idxB (bs { data := #[32, 39, 40, 41, 43, 44, 45, 46, 47, 58, 61, 63] }) (c.val : Int)) = printsD (c.val : Int) := by decide +kernel
  have k2 := key2 ⟨c.toNat, by omega⟩
  simp only [Int.toNat_of_nonneg hc.1] at k2
  refine ⟨fun h => by simp [printsD, h], fun h1 => ⟨fun h => by simp [printsD, h], fun h2 => ⟨fun h => by simp [printsD, h], fun h3 => ⟨fun h => ⟨h, fun y _ ey => by rw [ey]; exact k2 h1 h2 h3⟩, fun h => by subst h; decide⟩⟩⟩⟩
theorem h156 : c_text_prints.ok Tryz.prog GL 156 := con_ok (H := {}) (mkEnv_ok (gl := GL) (l := [(88, conSem c_strings_IndexByte)]) (q := []) (d := []) _ tyOk (by kernel_rfl) ⟨h88.call, trivial⟩ trivial trivial) (by kernel_rfl) (by kernel_rfl) (Eq.mp e156 k156)
def t148 : Prop :=
  ∀ (x : Int × List Int × Unit), (wiZ x.1 /\ wsZ x.2.1 /\ True) -> True -> (decide ((4096 : Int) < (lnZ x.2.1)) = true -> false = mayD x.1 x.2.1) /\ (decide ((4096 : Int) < (lnZ x.2.1)) =
  false -> (decide (x.1 = (12 : Int)) = true -> True /\ (∀ (y : q1), (q30 y) -> y.1 = (↑(vld x.2.1 q67) : Int) -> decide (y.1 = (lnZ x.2.1)) = mayD x.1 x.2.1) /\ True) /\ (decide (x.1 = (12 :
  Int)) = false -> (decide (x.1 = (19 : Int)) = true -> ∃ (I : q8), ∃ (μ : q9), ((lnZ x.2.1) = (lnZ x.2.1) /\ Value.bool true = Value.bool true /\ Value.bool false = Value.bool false /\ x.1 =
  x.1 /\ Value.bool false = Value.bool false /\ x.1 = x.1 /\ x.2.1 = x.2.1 /\ I (q33, false, ()) ()) /\ ∀ (y : q10) (z : Unit), (q79 y) -> True -> I y z -> (decide (y.1 < (lnZ x.2.1)) = true
  -> (q33 <= y.1 /\ y.1 < (lnZ x.2.1)) /\ True /\ (∀ (y_1 : q4), (q44 y_1) -> y_1.1 = printsD (List.getD x.2.1 (Int.toNat y.1) q33) -> ((!y_1.1) = true -> false = mayD x.1 x.2.1) /\ ((!y_1.1)
  = false -> (lnZ x.2.1) = (lnZ x.2.1) /\ Value.bool true = Value.bool true /\ Value.bool false = Value.bool false /\ x.1 = x.1 /\ Value.bool false = Value.bool false /\ x.1 = x.1 /\ x.2.1 =
  x.2.1 /\ I (wrZ (y.1 + q240), y.2.1, ()) () /\ μ (wrZ (y.1 + q240), y.2.1, ()) () < μ y z)) /\ True) /\ (decide (y.1 < (lnZ x.2.1)) = false -> true = mayD x.1 x.2.1)) /\ (decide (x.1 = (19
  : Int)) = false -> (decide (x.1 = (22 : Int)) = true -> ∃ (I : q8), ∃ (μ : q9), ((lnZ x.2.1) = (lnZ x.2.1) /\ Value.bool true = Value.bool true /\ Value.bool false = Value.bool false /\
  Value.bool false = Value.bool false /\ x.1 = x.1 /\ Value.bool false = Value.bool false /\ x.1 = x.1 /\ x.2.1 = x.2.1 /\ I (q33, false, ()) ()) /\ ∀ (y : q10) (z : Unit), (q79 y) -> True ->
  I y z -> (decide (y.1 < (lnZ x.2.1)) = true -> (q33 <= y.1 /\ y.1 < (lnZ x.2.1)) /\ (decide (q239 <= List.getD x.2.1 (Int.toNat y.1) q33) = true -> false = mayD x.1 x.2.1) /\ (decide (q239
  <= List.getD x.2.1 (Int.toNat y.1) q33) = false -> (lnZ x.2.1) = (lnZ x.2.1) /\ Value.bool true = Value.bool true /\ Value.bool false = Value.bool false /\ Value.bool false = Value.bool
  false /\ x.1 = x.1 /\ Value.bool false = Value.bool false /\ x.1 = x.1 /\ x.2.1 = x.2.1 /\ I (wrZ (y.1 + q240), y.2.1, ()) () /\ μ (wrZ (y.1 + q240), y.2.1, ()) () < μ y z)) /\ (decide (y.1
  < (lnZ x.2.1)) = false -> true = mayD x.1 x.2.1)) /\ (decide (x.1 = (22 : Int)) = false -> false = mayD x.1 x.2.1))))
theorem e148 : t148 = Con.vc c_text_May GL (mkEnv ty [(155, conSem c_text_Valid), (156, conSem c_text_prints)] [] [] [0, 1, 4, 5, 6, 9, 10, 11, 18, 21, 22, 23, 29, 31, 34, 35, 36, 41]) {} Tryz.f148.ntmps Tryz.f148.results.toList (bodyOf Tryz.f148) := by kernel_rfl
theorem k148 : t148 := by
  unfold t148
  delta wiZ wsZ lnZ q1 q30 q67 q8 q9 q33 q10 q79 q4 q44 wrZ q240 q239 wbZ
  rintro ⟨k, m, _⟩ hx hp
  try dsimp +instances only [dft_int, dft_sl, dft_str]
  simp only [true_and, and_true, eq_self_iff_true, implies_true, reduceCtorEq, false_implies, true_implies, decide_eq_true_eq, decide_eq_false_iff_not, beq_self_eq_true, Bool.not_eq_true', ne_eq, Decidable.not_not, List.nil_append, List.length_singleton, List.length_cons, List.length_nil, Nat.zero_add, Nat.add_zero, Nat.mul_one, and_self, beq_iff_eq, Bool.not_true, Bool.not_false, Bool.not_eq_false', Bool.cond_false_right, Bool.and_eq_true, imp_self, Bool.not_eq_true, Bool.cond_true_left, Bool.or_eq_true]
  refine ⟨fun h => by rw [mayD, if_pos (by omega)], fun hl => ⟨fun h => ?_, fun h12 => ⟨fun h19 => ?_, fun h19 => ⟨fun h22 => ?_, fun h22 => ?_⟩⟩⟩⟩
  . rintro ⟨a, _⟩ _ ea
    simp only at ea ⊢
    rw [mayD, if_neg (by omega), if_pos h, ea]
    exact decide_eq_decide.2 (by omega)
  . have hm : mayD k m = m.all printsD := by rw [mayD, if_neg (by omega), if_neg h12, if_pos h19]
    rw [hm]
    refine ⟨fun y _ => 0 ≤ y.1 ∧ y.1 ≤ m.length ∧ ∀ j, j < y.1.toNat → printsD (m.getD j 0) = true, fun y _ => ((m.length : Int) - y.1).toNat, ⟨by omega, by omega, fun j hj => by simp at hj⟩, ?_⟩
    rintro ⟨i, b, _⟩ z _ ⟨h0, h1, h2⟩
    simp only at h0 h1 h2 ⊢
    have hw : IntKind.wrap .i64 (i + 1) = i + 1 := wrapK _ (by omega) (by omega)
    rw [hw]
    refine ⟨fun hlt => ⟨⟨h0, hlt⟩, ?_⟩, fun hge => (all_get _ _ (fun j hj => h2 j (by omega))).symm⟩
    rintro ⟨a, _⟩ _ ea
    simp only at ea ⊢
    refine ⟨fun h => (all_not _ _ i.toNat (by omega) (by rw [← ea]; exact h)).symm, fun h => ⟨⟨by omega, by omega, fun j hj => ?_⟩, by omega⟩⟩
    by_cases hji : j < i.toNat
    . exact h2 j hji
    . rw [show j = i.toNat by omega, ← ea]; exact h
  . have hm : mayD k m = m.all (fun c => decide (c < 128)) := by rw [mayD, if_neg (by omega), if_neg h12, if_neg h19, if_pos h22]
    rw [hm]
    refine ⟨fun y _ => 0 ≤ y.1 ∧ y.1 ≤ m.length ∧ ∀ j, j < y.1.toNat → m.getD j 0 < 128, fun y _ => ((m.length : Int) - y.1).toNat, ⟨by omega, by omega, fun j hj => by simp at hj⟩, ?_⟩
    rintro ⟨i, b, _⟩ z _ ⟨h0, h1, h2⟩
    simp only at h0 h1 h2 ⊢
    have hw : IntKind.wrap .i64 (i + 1) = i + 1 := wrapK _ (by omega) (by omega)
    rw [hw]
    refine ⟨fun hlt => ⟨⟨h0, hlt⟩, fun h => (all_not _ _ i.toNat (by omega) (by simpa using h)).symm, fun h => ⟨⟨by omega, by omega, fun j hj => ?_⟩, by omega⟩⟩, fun hge => (all_get _ _ (fun j hj => by simpa using h2 j (by omega))).symm⟩
    by_cases hji : j < i.toNat
    . exact h2 j hji
    . rw [show j = i.toNat by omega]; omega
  . rw [mayD, if_neg (by omega), if_neg h12, if_neg h19, if_neg h22]
theorem h148 : c_text_May.ok Tryz.prog GL 148 := con_ok (H := {}) (mkEnv_ok (gl := GL) (l := [(155, conSem c_text_Valid), (156, conSem c_text_prints)]) (q := []) (d := []) _ tyOk (by kernel_rfl) ⟨h155.call, h156.call, trivial⟩ trivial trivial) (by kernel_rfl) (by kernel_rfl) (Eq.mp e148 k148)
def t135 : Prop :=
  ∀ (x : q6), (q64 x) -> True -> True /\ (∀ (y : q4), (q44 y) -> y.1 = mayD (19 : Int) x.1 -> (y.1 = true -> (19 : Int) = (kindD x.1).1 /\ q33 = (kindD x.1).2) /\ (y.1 = false -> True /\ (∀
  (y : q4), (q44 y) -> y.1 = mayD (12 : Int) x.1 -> (y.1 = true -> (12 : Int) = (kindD x.1).1 /\ q33 = (kindD x.1).2) /\ (y.1 = false -> q33 = (kindD x.1).1 /\ (50 : Int) = (kindD x.1).2)) /\
  True)) /\ True
theorem e135 : t135 = Con.vc c_text_Kind GL (mkEnv ty [(148, conSem c_text_May)] [] [] [0, 2, 3, 4, 7]) {} Tryz.f135.ntmps Tryz.f135.results.toList (bodyOf Tryz.f135) := by kernel_rfl
theorem k135 : t135 := by
  unfold t135
  delta q6 q64 q4 q44 q33 wsZ wbZ
  rintro ⟨l, _⟩ hx hp
  try dsimp +instances only [dft_int, dft_sl, dft_str]
  simp only [true_and, and_true, eq_self_iff_true, implies_true, reduceCtorEq, false_implies, true_implies, decide_eq_true_eq, decide_eq_false_iff_not, beq_self_eq_true, Bool.not_eq_true', ne_eq, Decidable.not_not, List.nil_append, List.length_singleton, List.length_cons, List.length_nil, Nat.zero_add, Nat.add_zero, Nat.mul_one, and_self, beq_iff_eq, Bool.not_true, Bool.not_false, Bool.not_eq_false', Bool.cond_false_right, Bool.and_eq_true, imp_self, Bool.not_eq_true, Bool.cond_true_left, Bool.or_eq_true]
  rintro ⟨a, _⟩ _ ea
  simp only at ea ⊢
  refine ⟨fun h => by rw [kindD, if_pos (by rw [← ea]; exact h)]; exact ⟨rfl, rfl⟩, fun h => ?_⟩
  rintro ⟨b, _⟩ _ eb
  simp only at eb ⊢
  refine ⟨fun h2 => ?_, fun h2 => ?_⟩
  . rw [kindD, if_neg (by rw [← ea, h]; decide), if_pos (by rw [← eb]; exact h2)]; exact ⟨rfl, rfl⟩
  . rw [kindD, if_neg (by rw [← ea, h]; decide), if_neg (by rw [← eb, h2]; decide)]; exact ⟨rfl, rfl⟩
theorem h135 : c_text_Kind.ok Tryz.prog GL 135 := con_ok (H := {}) (mkEnv_ok (gl := GL) (l := [(148, conSem c_text_May)]) (q := []) (d := []) _ tyOk (by kernel_rfl) ⟨h148.call, trivial⟩ trivial trivial) (by kernel_rfl) (by kernel_rfl) (Eq.mp e135 k135)
noncomputable def i157 : CallSem → CallSem := vcSeq (mkEnv ty [(88, conSem c_strings_IndexByte)] [] [] [0, 1, 3, 4, 8, 14, 31]) {joins := [5]} Tryz.f157.ntmps Tryz.f157.results.toList (bodyOf Tryz.f157)
theorem i157_ok : SeqOk Tryz.prog GL 157 i157 := seq_ok {joins := [5]} (mkEnv_ok (gl := GL) (l := [(88, conSem c_strings_IndexByte)]) (q := []) (d := []) _ tyOk (by kernel_rfl) ⟨h88.call, trivial⟩ trivial trivial) (by kernel_rfl) (by kernel_rfl)
noncomputable def i151 : CallSem := vcFn (mkEnv ty [] [] [] [0, 1, 2]) {} Tryz.f151.ntmps Tryz.f151.results.toList (bodyOf Tryz.f151)
theorem i151_ok : CallOk Tryz.prog GL 151 i151 := inl_ok {} (mkEnv_ok (gl := GL) (l := []) (q := []) (d := []) _ tyOk (by kernel_rfl) trivial trivial trivial) (by kernel_rfl) (by kernel_rfl)
def t137 : Prop :=
  ∀ (x : q6), (q64 x) -> List.length x.1 <= q87 -> q36 <= q65 /\ List.length [SV.dat Kd.str x.1] <= q65 /\ ∃ (I : q11), ∃ (μ : q12), (bs { data := #[] } = bs { data := #[] } /\ x.1 = x.1 /\ I
  (q33, ()) ((), (x.1, ()), [], ())) /\ ∀ (y : q1) (z : q13), (q30 y) -> True /\ (wsZ z.2.1.1 /\ True) /\ (wyZ z.2.2.1 /\ True) -> I y z -> (decide (y.1 < (lnZ z.2.1.1)) = true -> (q33 <= y.1
  /\ y.1 <= (lnZ z.2.1.1)) /\ True /\ (∀ (y_1 : q1), (q30 y_1) -> y_1.1 = idxB (List.drop (q35 y) z.2.1.1) (32 : Int) -> ∃ (J : q14), ((decide (y_1.1 < q33) = true -> Value.bool true =
  Value.bool true /\ y.1 = y.1 /\ z.2.1.1 = z.2.1.1 /\ z.2.2.1 = z.2.2.1 /\ bs { data := #[] } = bs { data := #[] } /\ x.1 = x.1 /\ J (wrZ ((lnZ z.2.1.1) - y.1), ()) ((), (), ())) /\ (decide
  (y_1.1 < q33) = false -> Value.bool true = Value.bool true /\ y.1 = y.1 /\ z.2.1.1 = z.2.1.1 /\ z.2.2.1 = z.2.2.1 /\ bs { data := #[] } = bs { data := #[] } /\ x.1 = x.1 /\ J (y_1.1, ())
  ((), (), ()))) /\ ∀ (u : q1) (z_1 : q15), (q30 u) -> True /\ True /\ True -> J u z_1 -> (q83 u) /\ (q83 u) /\ (q83 u) /\ (q83 u) /\ (q83 u) /\ (decide (q88 u) = true -> (q84 u) = true /\
  (q84 u) = true /\ True) /\ (decide (q88 u) = true -> (q84 u) = true /\ (q84 u) = true /\ (q84 u) = true /\ (q33 <= y.1 /\ y.1 <= wrZ (y.1 + u.1) /\ wrZ (y.1 + u.1) <= (lnZ z.2.1.1)) /\
  True) /\ (decide (q88 u) = true -> (q84 u) = true /\ (q84 u) = true /\ ∃ (J : Unit -> Unit × q89 × List Int × Unit -> Prop), ((decide (q33 < (lnZ z.2.2.1)) = true -> q67 < q36 /\
  (List.length z.2.2.1 + q36) * q36 <= q86 /\ List.length z.2.2.1 + q36 <= q85 /\ List.drop (q35 y) (q82 y u z) = List.drop (q35 y) (q82 y u z) /\ List.drop (q35 y) (q82 y u z) = List.drop
  (q35 y) (q82 y u z) /\ bs { data := #[] } = bs { data := #[] } /\ x.1 = x.1 /\ List.drop (q35 y) (q82 y u z) = List.drop (q35 y) (q82 y u z) /\ Value.bool true = Value.bool true /\ decide
  (q88 u) = decide (q88 u) /\ u.1 = u.1 /\ u.1 = u.1 /\ Value.bool true = Value.bool true /\ y.1 = y.1 /\ bs { data := #[] } = bs { data := #[] } /\ x.1 = x.1 /\ J () ((), (z.2.1.1, ()),
  z.2.2.1 ++ [(32 : Int)], ())) /\ (decide (q33 < (lnZ z.2.2.1)) = false -> List.drop (q35 y) (q82 y u z) = List.drop (q35 y) (q82 y u z) /\ List.drop (q35 y) (q82 y u z) = List.drop (q35 y)
  (q82 y u z) /\ bs { data := #[] } = bs { data := #[] } /\ x.1 = x.1 /\ List.drop (q35 y) (q82 y u z) = List.drop (q35 y) (q82 y u z) /\ Value.bool true = Value.bool true /\ decide (q88 u) =
  decide (q88 u) /\ u.1 = u.1 /\ u.1 = u.1 /\ Value.bool true = Value.bool true /\ y.1 = y.1 /\ bs { data := #[] } = bs { data := #[] } /\ x.1 = x.1 /\ J () ((), (z.2.1.1, ()), z.2.2.1, ())))
  /\ ∀ (u_1 : Unit) (z_2 : q13), True -> True /\ (wsZ z_2.2.1.1 /\ True) /\ (wyZ z_2.2.2.1 /\ True) -> J u_1 z_2 -> ∃ (I_1 : q11), ∃ (μ_1 : q12), ((q81 y u z) = (q81 y u z) /\ List.drop (q35
  y) (q82 y u z) = List.drop (q35 y) (q82 y u z) /\ List.drop (q35 y) (q82 y u z) = List.drop (q35 y) (q82 y u z) /\ bs { data := #[] } = bs { data := #[] } /\ x.1 = x.1 /\ List.drop (q35 y)
  (q82 y u z) = List.drop (q35 y) (q82 y u z) /\ Value.bool true = Value.bool true /\ decide (q88 u) = decide (q88 u) /\ u.1 = u.1 /\ u.1 = u.1 /\ Value.bool true = Value.bool true /\ y.1 =
  y.1 /\ bs { data := #[] } = bs { data := #[] } /\ x.1 = x.1 /\ I_1 (q33, ()) ((), (z_2.2.1.1, ()), z_2.2.2.1, ())) /\ ∀ (y_2 : q1) (z_3 : q13), (q30 y_2) -> True /\ (wsZ z_3.2.1.1 /\ True)
  /\ (wyZ z_3.2.2.1 /\ True) -> I_1 y_2 z_3 -> (decide (y_2.1 < (q81 y u z)) = true -> (((q33 <= y_2.1 /\ y_2.1 < (q81 y u z)) /\ (True /\ (∀ (y_3 : q1), (q76 y_3) -> y_3.1 = smallD (q80 y u
  z y_2) -> ((q67 < q36 /\ (List.length z_3.2.2.1 + List.length [y_3.1]) * q36 <= q86 /\ List.length z_3.2.2.1 + List.length [y_3.1] <= q85 /\ ((q81 y u z) = (q81 y u z) /\ List.drop (q35 y)
  (q82 y u z) = List.drop (q35 y) (q82 y u z) /\ List.drop (q35 y) (q82 y u z) = List.drop (q35 y) (q82 y u z) /\ bs { data := #[] } = bs { data := #[] } /\ x.1 = x.1 /\ List.drop (q35 y)
  (q82 y u z) = List.drop (q35 y) (q82 y u z) /\ Value.bool true = Value.bool true /\ decide (q88 u) = decide (q88 u) /\ u.1 = u.1 /\ u.1 = u.1 /\ Value.bool true = Value.bool true /\ y.1 =
  y.1 /\ bs { data := #[] } = bs { data := #[] } /\ x.1 = x.1 /\ I_1 (wrZ (y_2.1 + q66), ()) ((), (z_3.2.1.1, ()), z_3.2.2.1 ++ [y_3.1], ()) /\ μ_1 (wrZ (y_2.1 + q66), ()) ((), (z_3.2.1.1,
  ()), z_3.2.2.1 ++ [y_3.1], ()) < μ_1 y_2 z_3) /\ True) /\ True) /\ True) /\ True) /\ True) /\ True) /\ ((q33 <= y_2.1 /\ y_2.1 < (q81 y u z)) /\ ((True /\ (∀ (y_3 : q1), (q76 y_3) -> y_3.1
  = smallD (q80 y u z y_2) -> ((q67 < q36 /\ (List.length z_3.2.2.1 + List.length [y_3.1]) * q36 <= q86 /\ List.length z_3.2.2.1 + List.length [y_3.1] <= q85 /\ ((q81 y u z) = (q81 y u z) /\
  List.drop (q35 y) (q82 y u z) = List.drop (q35 y) (q82 y u z) /\ List.drop (q35 y) (q82 y u z) = List.drop (q35 y) (q82 y u z) /\ bs { data := #[] } = bs { data := #[] } /\ x.1 = x.1 /\
  List.drop (q35 y) (q82 y u z) = List.drop (q35 y) (q82 y u z) /\ Value.bool true = Value.bool true /\ decide (q88 u) = decide (q88 u) /\ u.1 = u.1 /\ u.1 = u.1 /\ Value.bool true =
  Value.bool true /\ y.1 = y.1 /\ bs { data := #[] } = bs { data := #[] } /\ x.1 = x.1 /\ I_1 (wrZ (y_2.1 + q66), ()) ((), (z_3.2.1.1, ()), z_3.2.2.1 ++ [y_3.1], ()) /\ μ_1 (wrZ (y_2.1 +
  q66), ()) ((), (z_3.2.1.1, ()), z_3.2.2.1 ++ [y_3.1], ()) < μ_1 y_2 z_3) /\ True) /\ True) /\ True) /\ True) /\ True) /\ (True /\ (∀ (y_3 : q1), (q76 y_3) -> y_3.1 = smallD (q80 y u z y_2)
  -> (((q67 < q36 /\ (List.length z_3.2.2.1 + List.length [y_3.1]) * q36 <= q86 /\ List.length z_3.2.2.1 + List.length [y_3.1] <= q85 /\ ((q81 y u z) = (q81 y u z) /\ List.drop (q35 y) (q82 y
  u z) = List.drop (q35 y) (q82 y u z) /\ List.drop (q35 y) (q82 y u z) = List.drop (q35 y) (q82 y u z) /\ bs { data := #[] } = bs { data := #[] } /\ x.1 = x.1 /\ List.drop (q35 y) (q82 y u
  z) = List.drop (q35 y) (q82 y u z) /\ Value.bool true = Value.bool true /\ decide (q88 u) = decide (q88 u) /\ u.1 = u.1 /\ u.1 = u.1 /\ Value.bool true = Value.bool true /\ y.1 = y.1 /\ bs
  { data := #[] } = bs { data := #[] } /\ x.1 = x.1 /\ I_1 (wrZ (y_2.1 + q66), ()) ((), (z_3.2.1.1, ()), z_3.2.2.1 ++ [y_3.1], ()) /\ μ_1 (wrZ (y_2.1 + q66), ()) ((), (z_3.2.1.1, ()),
  z_3.2.2.1 ++ [y_3.1], ()) < μ_1 y_2 z_3) /\ True) /\ True) /\ True) /\ (((q67 < q36 /\ (List.length z_3.2.2.1 + List.length [y_3.1]) * q36 <= q86 /\ List.length z_3.2.2.1 + List.length
  [y_3.1] <= q85 /\ ((q81 y u z) = (q81 y u z) /\ List.drop (q35 y) (q82 y u z) = List.drop (q35 y) (q82 y u z) /\ List.drop (q35 y) (q82 y u z) = List.drop (q35 y) (q82 y u z) /\ bs { data
  := #[] } = bs { data := #[] } /\ x.1 = x.1 /\ List.drop (q35 y) (q82 y u z) = List.drop (q35 y) (q82 y u z) /\ Value.bool true = Value.bool true /\ decide (q88 u) = decide (q88 u) /\ u.1 =
  u.1 /\ u.1 = u.1 /\ Value.bool true = Value.bool true /\ y.1 = y.1 /\ bs { data := #[] } = bs { data := #[] } /\ x.1 = x.1 /\ I_1 (wrZ (y_2.1 + q66), ()) ((), (z_3.2.1.1, ()), z_3.2.2.1 ++
  [y_3.1], ()) /\ μ_1 (wrZ (y_2.1 + q66), ()) ((), (z_3.2.1.1, ()), z_3.2.2.1 ++ [y_3.1], ()) < μ_1 y_2 z_3) /\ True) /\ True) /\ True) /\ True) /\ True) /\ True) /\ True) /\ (decide (y_2.1 <
  (q81 y u z)) = false -> bs { data := #[] } = bs { data := #[] } /\ x.1 = x.1 /\ I (wrZ (y.1 + wrZ (u.1 + q66)), ()) ((), (z_3.2.1.1, ()), z_3.2.2.1, ()) /\ μ (wrZ (y.1 + wrZ (u.1 + q66)),
  ()) ((), (z_3.2.1.1, ()), z_3.2.2.1, ()) < μ y z)) /\ (decide (q88 u) = !true -> bs { data := #[] } = bs { data := #[] } /\ x.1 = x.1 /\ I (wrZ (y.1 + wrZ (u.1 + q66)), ()) ((), (z.2.1.1,
  ()), z.2.2.1, ()) /\ μ (wrZ (y.1 + wrZ (u.1 + q66)), ()) ((), (z.2.1.1, ()), z.2.2.1, ()) < μ y z)) /\ True) /\ (decide (y.1 < (lnZ z.2.1.1)) = false -> z.2.2.1 = foldD x.1)
theorem e137 : t137 = Con.vc c_text_Fold GL (mkEnv ty [(151, i151), (152, conSem c_text_small)] [(157, i157)] [] [0, 2, 3, 4, 5, 7, 8, 11, 16, 17, 18]) {joins := [6]} Tryz.f137.ntmps Tryz.f137.results.toList (bodyOf Tryz.f137) := by kernel_rfl
theorem k137 : t137 := by
  unfold t137
  delta q6 q64 q87 q36 q65 q11 q12 q33 q1 q13 q30 wsZ wyZ lnZ q35 q14 wrZ q15 q83 q88 q84 q89 q67 q86 q85 q82 q81 q76 q80 q66 wiZ q236 q298
  rintro ⟨l, _⟩ hx hp
  have hw : Kd.wf Kd.str l := hx.1
  have hp : l.length ≤ 100000000 := hp
  try dsimp +instances only [dft_int, dft_sl, dft_str]
  simp only [true_and, and_true, eq_self_iff_true, implies_true, reduceCtorEq, false_implies, true_implies, decide_eq_true_eq, decide_eq_false_iff_not, beq_self_eq_true, Bool.not_eq_true', ne_eq, Decidable.not_not, List.nil_append, List.length_singleton, List.length_cons, List.length_nil, Nat.zero_add, Nat.add_zero, Nat.mul_one, and_self, beq_iff_eq, Bool.not_true, Bool.not_false, Bool.not_eq_false', Bool.cond_false_right, Bool.and_eq_true, imp_self, Bool.not_eq_true, Bool.cond_true_left, Bool.or_eq_true]
  refine ⟨by decide, by decide, fun y z => 0 ≤ y.1 ∧ y.1 ≤ l.length + 1 ∧ z.2.1.1 = l ∧ (z.2.2.1.length : Int) ≤ 2 * y.1 ∧ foldD l = joinF z.2.2.1 (wordsA [] (l.drop y.1.toNat)), fun y _ => ((l.length : Int) + 1 - y.1).toNat, ⟨by decide, by omega, rfl, by simp, rfl⟩, ?_⟩
  rintro ⟨i, _⟩ ⟨_, ⟨m, _⟩, b, _⟩ _ _ ⟨h0, h1, h2, h3, h4⟩
  simp only at h0 h1 h2 h3 h4 ⊢
  subst h2
  refine ⟨fun hlt => ⟨⟨h0, by omega⟩, ?_⟩, fun hge => ?_⟩
  rotate_left
  . rw [h4, List.drop_of_length_le (by omega), words_end]; rfl
  rintro ⟨k, _⟩ _ ek
  simp only at ek ⊢
  have hdl : (m.drop i.toNat).length = m.length - i.toNat := by simp
  refine ⟨fun u _ => idxB (m.drop i.toNat) 32 < 0 ∧ u.1 = (m.drop i.toNat).length ∨ 0 ≤ idxB (m.drop i.toNat) 32 ∧ u.1 = idxB (m.drop i.toNat) 32, ⟨fun h => .inl ⟨by omega, ?_⟩, fun h => .inr ⟨by omega, ek⟩⟩, ?_⟩
  . rw [hdl]
    have : IntKind.wrap .i64 ((m.length : Int) - i) = m.length - i := wrapK _ (by omega) (by omega)
    rw [this]; omega
  rintro ⟨n, _⟩ _ _ hJ
  obtain ⟨n0, n1, n2⟩ := idx_split hJ
  clear hJ
  simp only at n0 n1 n2 ⊢
  rw [hdl] at n1
  have e1 : IntKind.wrap .i64 (n + 1) = n + 1 := wrapK _ (by omega) (by omega)
  have e2 : IntKind.wrap .i64 (i + (n + 1)) = i + (n + 1) := wrapK _ (by omega) (by omega)
  have e3 : IntKind.wrap .i64 (i + n) = i + n := wrapK _ (by omega) (by omega)
  rw [e1, e2, e3]
  have e4 : (i + (n + 1)).toNat = i.toNat + (n.toNat + 1) := by omega
  have e5 : (i + n).toNat = i.toNat + n.toNat := by omega
  rw [List.drop_drop, ← e4] at n2
  refine ⟨fun h => ⟨h, h, h, h0, by omega, by omega⟩, fun h => ⟨h, h, ?_⟩, fun h => ⟨⟨by omega, by omega, trivial, by omega, ?_⟩, by omega⟩⟩
  rotate_left
  . rw [h4, n2, if_pos (by omega), List.nil_append]
  rw [if_neg (by omega)] at n2
  have ew : (m.take (i + n).toNat).drop i.toNat = (m.drop i.toNat).take n.toNat := by rw [e5, List.drop_take, Nat.add_sub_cancel_left]
  rw [ew]
  have hwl : ((m.drop i.toNat).take n.toNat).length = n.toNat := by rw [List.length_take, hdl]; omega
  generalize (m.drop i.toNat).take n.toNat = w at n2 hwl ⊢
  refine ⟨fun _ z => z.2.1.1 = m ∧ z.2.2.1 = b ++ (if b = [] then [] else [32]), ⟨fun hb => ⟨by decide, by omega, by omega, rfl, ?_⟩, fun hb => ⟨rfl, ?_⟩⟩, ?_⟩
  . rw [if_neg (fun e => by rw [e] at hb; simp at hb)]
  . have : b = [] := List.eq_nil_of_length_eq_zero (by omega)
    subst this; rfl
  rintro _ ⟨_, ⟨m2, _⟩, c, _⟩ _ ⟨em, ec⟩
  simp only at em ec ⊢
  subst em
  have hcl : (c.length : Int) ≤ 2 * i + 1 := by
    rw [ec, List.length_append]
    split <;> simp <;> omega
  refine ⟨fun y z => 0 ≤ y.1 ∧ y.1 ≤ w.length ∧ z.2.1.1 = m2 ∧ z.2.2.1 = c ++ (w.take y.1.toNat).map smallD, fun y _ => ((w.length : Int) - y.1).toNat, ⟨by decide, by omega, rfl, by simp⟩, ?_⟩
  rintro ⟨j, _⟩ ⟨_, ⟨m3, _⟩, d, _⟩ _ _ ⟨j0, j1, em3, ed⟩
  simp only at j0 j1 em3 ed ⊢
  subst em3
  have hdl : (d.length : Int) = c.length + j := by
    rw [ed, List.length_append, List.length_map, List.length_take]
    omega
  refine ⟨fun hlt => ⟨⟨j0, hlt⟩, ?_⟩, fun hge => ⟨⟨by omega, by omega, rfl, by omega, ?_⟩, by omega⟩⟩
  . rintro ⟨s, _⟩ _ es
    simp only at es ⊢
    have e6 : IntKind.wrap .i64 (j + 1) = j + 1 := wrapK _ (by omega) (by omega)
    rw [e6]
    refine ⟨by decide, by omega, by omega, ⟨by omega, by omega, trivial, ?_⟩, by omega⟩
    rw [show (j + 1).toNat = j.toNat + 1 by omega, take_snoc w j.toNat (by omega), List.map_append, ed, es, List.append_assoc]
    rfl
  . rw [h4, n2, List.singleton_append, joinF, ed, ec, List.take_of_length_le (by omega)]
theorem h137 : c_text_Fold.ok Tryz.prog GL 137 := con_ok (H := {joins := [6]}) (mkEnv_ok (gl := GL) (l := [(151, i151), (152, conSem c_text_small)]) (q := [(157, i157)]) (d := []) _ tyOk (by kernel_rfl) ⟨i151_ok, h152.call, trivial⟩ ⟨i157_ok, trivial⟩ trivial) (by kernel_rfl) (by kernel_rfl) (Eq.mp e137 k137)
def t115 : Prop :=
  ∀ (x : q2), (q31 x) -> List.length x.1 <= q87 /\ List.length x.2.1 <= q87 -> List.length x.1 <= q87 /\ (∀ (y : q6), (q64 y) -> y.1 = foldD x.1 -> List.length x.2.1 <= q87 /\ (∀ (y_1 : q6),
  (q64 y_1) -> y_1.1 = foldD x.2.1 -> decide (y.1 = y_1.1) = decide (foldD x.1 = foldD x.2.1)) /\ True) /\ True
theorem e115 : t115 = Con.vc c_text_Same GL (mkEnv ty [(137, conSem c_text_Fold)] [] [] [0, 1, 4]) {} Tryz.f115.ntmps Tryz.f115.results.toList (bodyOf Tryz.f115) := by kernel_rfl
theorem k115 : t115 := by
  unfold t115
  delta q2 q31 q87 q6 q64 wsZ
  rintro ⟨l, m, _⟩ hx ⟨h1, h2⟩
  try dsimp +instances only [dft_int, dft_sl, dft_str]
  simp only [true_and, and_true, eq_self_iff_true, implies_true, reduceCtorEq, false_implies, true_implies, decide_eq_true_eq, decide_eq_false_iff_not, beq_self_eq_true, Bool.not_eq_true', ne_eq, Decidable.not_not, List.nil_append, List.length_singleton, List.length_cons, List.length_nil, Nat.zero_add, Nat.add_zero, Nat.mul_one, and_self, beq_iff_eq, Bool.not_true, Bool.not_false, Bool.not_eq_false', Bool.cond_false_right, Bool.and_eq_true, imp_self, Bool.not_eq_true, Bool.cond_true_left, Bool.or_eq_true]
  refine ⟨h1, ?_⟩
  rintro ⟨a, _⟩ _ ea
  refine ⟨h2, ?_⟩
  rintro ⟨b, _⟩ _ eb
  simp only at ea eb ⊢
  subst ea eb
  rfl
theorem h115 : c_text_Same.ok Tryz.prog GL 115 := con_ok (H := {}) (mkEnv_ok (gl := GL) (l := [(137, conSem c_text_Fold)]) (q := []) (d := []) _ tyOk (by kernel_rfl) ⟨h137.call, trivial⟩ trivial trivial) (by kernel_rfl) (by kernel_rfl) (Eq.mp e115 k115)
end Go.Proofs.YtgnlcpoeepfdoaaGreatDoor
end
