/- Texts of a verified walk, led together: Gl12A, Gl12W, StrsA, StrsW, TextA, TextW. -/
import Derived.Test.YtiofbnlbfmbodaaGreatDoorZV06
import Derived.Test.YtiofbnlbfmbodaaGreatDoorZTy
import Derived.Test.YtiofbnlbfmbodaaGreatDoorZV07
import Derived.Test.YtiofbnlbfmbodaaGreatDoorZShelf
set_option linter.unusedVariables false
set_option linter.unusedSimpArgs false
section
namespace Go.Proofs.YtiofbnlbfmbodaaGreatDoor
open Go Go.Vc Go.Pl Go.Proofs
def GL : Gl := [(1, .arr U8 Lib.firstTab), (2, .arr (.pair U8 U8) accTab), (0, .num .i64)]
end Go.Proofs.YtiofbnlbfmbodaaGreatDoor
end
section
namespace Go.Proofs.YtiofbnlbfmbodaaGreatDoor
open Go Go.Vc Go.Pl Go.Proofs
end Go.Proofs.YtiofbnlbfmbodaaGreatDoor
end
section
namespace Go.Proofs.YtiofbnlbfmbodaaGreatDoor
open Go Go.Vc Go.Pl Go.Proofs
def c_bytealg_IndexByteString : Con := { args := [Kd.str, U8].map .dat, res := [.dat I64], pre := fun _ => True, post := fun x y => y.1 = idxB x.1 x.2.1 }
def c_stringslite_IndexByte : Con := { args := [.dat .str, .dat U8], res := [.dat I64], pre := fun _ => True, post := fun x y => y.1 = idxB x.1 x.2.1 }
def c_strings_IndexByte : Con := { args := [.dat .str, .dat U8], res := [.dat I64], pre := fun _ => True, post := fun x y => y.1 = idxB x.1 x.2.1 }
def c_stringslite_Index : Con := { args := [Kd.str, Kd.str].map .dat, res := [I64].map .dat, pre := fun x => x.1.length < 4294967281, post := fun x y => y.1 = idxS x.1 x.2.1 }
def c_strings_Index : Con := { args := [.dat .str, .dat .str], res := [.dat I64], pre := fun x => x.1.length < 4294967281, post := fun x y => y.1 = idxS x.1 x.2.1 }
def c_strings_Contains : Con := { args := [.dat .str, .dat .str], res := [.dat .bool], pre := fun x => x.1.length < 4294967281, post := fun x y => y.1 = decide (0 ≤ idxS x.1 x.2.1) }
def c_stringslite_Cut : Con := { args := [.dat .str, .dat .str], res := [.dat .str, .dat .str, .dat .bool], pre := fun x => x.1.length < 4294967281 ∧ x.2.1.length = 1, post := fun x y => y.1 = (cutD (x.2.1.getD 0 0) x.1).1 ∧ y.2.1 = (cutD (x.2.1.getD 0 0) x.1).2.1 ∧ y.2.2.1 = (cutD (x.2.1.getD 0 0) x.1).2.2 }
def c_strings_Cut : Con := { args := [.dat .str, .dat .str], res := [.dat .str, .dat .str, .dat .bool], pre := fun x => x.1.length < 4294967281 ∧ x.2.1.length = 1, post := fun x y => y.1 = (cutD (x.2.1.getD 0 0) x.1).1 ∧ y.2.1 = (cutD (x.2.1.getD 0 0) x.1).2.1 ∧ y.2.2.1 = (cutD (x.2.1.getD 0 0) x.1).2.2 }
def c_stringslite_HasPrefix : Con := { args := [.dat .str, .dat .str], res := [.dat .bool], pre := fun _ => True, post := fun x y => y.1 = hasP x.2.1 x.1 }
def c_stringslite_CutPrefix : Con := { args := [.dat .str, .dat .str], res := [.dat .str, .dat .bool], pre := fun _ => True, post := fun x y => y.1 = (if hasP x.2.1 x.1 then x.1.drop x.2.1.length else x.1) ∧ y.2.1 = hasP x.2.1 x.1 }
def c_strings_CutPrefix : Con := { args := [.dat .str, .dat .str], res := [.dat .str, .dat .bool], pre := fun _ => True, post := fun x y => y.1 = (if hasP x.2.1 x.1 then x.1.drop x.2.1.length else x.1) ∧ y.2.1 = hasP x.2.1 x.1 }
end Go.Proofs.YtiofbnlbfmbodaaGreatDoor
end
section
namespace Go.Proofs.YtiofbnlbfmbodaaGreatDoor
open Go Go.Vc Go.Pl Go.Proofs
set_option linter.unusedVariables false
set_option linter.unusedSimpArgs false
abbrev wrZ (x : Int) : Int := IntKind.wrap IntKind.i64 x
abbrev wiZ (x : Int) : Prop := Kd.wf (Kd.int IntKind.i64) x
abbrev wsZ (x : List Int) : Prop := Kd.wf Kd.str x
abbrev wbZ (x : Bool) : Prop := Kd.wf Kd.bool x
abbrev lnZ {α : Type} (x : List α) : Int := (↑(List.length x) : Int)
abbrev q0 := (List Int × Int × Unit)
abbrev q1 := (Int × Unit)
abbrev q2 := (List Int × List Int × Unit)
abbrev q3 := (List Int × List Int × Bool × Unit)
abbrev q4 := (Bool × Unit)
abbrev q35 := (Kd.int IntKind.u8)
abbrev q36 (p0 : q1) := (wiZ p0.1 /\ True)
abbrev q37 (p0 : q2) := (wsZ p0.1 /\ wsZ p0.2.1 /\ True)
abbrev q38 := (4294967281 : Nat)
abbrev q379 := (0 : Int)
abbrev q39 (p0 : q1) := (q379 <= p0.1)
abbrev q40 := (0 : Int)
abbrev q402 := (0 : Nat)
abbrev q41 (p0 : q2) := (cutD (List.getD p0.2.1 q402 q379) p0.1)
abbrev q42 := (1 : Nat)
abbrev q378 (p0 : q2) := ((lnZ p0.2.1) <= (lnZ p0.1))
abbrev q43 (p0 : q2) := (decide (q378 p0) = true -> (decide (q378 p0) == true) = true /\ (decide (q378 p0) == true) = true /\ (q379 <= (lnZ p0.2.1) /\ (lnZ p0.2.1) <= (lnZ p0.1)) /\ True)
abbrev q44 (p0 : q2) := (decide (q378 p0) = true -> (decide (q378 p0) == true) = true /\ True)
abbrev q45 (p0 : q2) := (decide (q378 p0) = true -> True)
abbrev q46 (p0 : q2) := (decide (q378 p0) == true)
abbrev q47 (p0 : q4) := (wbZ p0.1 /\ True)
abbrev q377 (p0 : q1) := (Int.toNat p0.1)
theorem h199 : CallOk Tryz.prog GL 199 (conSem c_bytealg_IndexByteString) := by
  refine ext_ok (ks := [Kd.str, U8]) (k := I64) rfl ?_
  rintro w F ⟨l, c, u⟩ vs h _
  obtain ⟨v1, r1, rfl, h1, v2, r2, rfl, h2, rfl⟩ := h
  obtain ⟨s, rfl, rfl, hs⟩ := VRep_str.1 h1
  obtain ⟨rfl, hc⟩ := VRep_int.1 h2
  have hc2 : 0 ≤ c ∧ c ≤ 255 := inr_u8.1 hc
  refine ⟨_, (Lib.indexByte s.data.toList c.toNat.toUInt8 : Int), ?_, idxB_lib _ _ hc2, VRep_int.2 ⟨rfl, ?_⟩⟩
  . rw [run_callFunc_extern Tryz.func199 (by kernel_rfl) (by kernel_rfl) (by kernel_rfl) (e := Extern.BytealgIndexByte.indexByte) (by kernel_rfl)]
    show ((Extern.BytealgIndexByte.indexByte #[.string s, .int .u8 c]).run Tryz.prog w).andThen _ = _
    rw [Lib.run_indexByteString]
    rfl
  . rw [idxB_lib _ _ hc2]
    have h1 := idxB_ge (bs s) c
    have h3 : s.size ≤ 9223372036854775807 := hs
    rw [bs_length] at h1
    show InR .i64 (idxB (bs s) c)
    generalize idxB (bs s) c = r at h1 ⊢
    simp [InR, IntKind.min, IntKind.max, IntKind.signed, IntKind.bits]
    omega
def t189 : Prop :=
  ∀ (x : q0), (wsZ x.1 /\ Kd.wf q35 x.2.1 /\ True) -> True -> True /\ (∀ (y : q1), (q36 y) -> y.1 = idxB x.1 x.2.1 -> y.1 = idxB x.1 x.2.1) /\ True
theorem e189 : t189 = Con.vc c_stringslite_IndexByte GL (mkEnv ty [(199, conSem c_bytealg_IndexByteString)] [] [] [0, 1, 4]) {} Tryz.f189.ntmps Tryz.f189.results.toList (bodyOf Tryz.f189) := by kernel_rfl
theorem k189 : t189 := by
  unfold t189
  delta q0 wsZ q35 q1 q36 wiZ
  rintro ⟨l, c, _⟩ hx _
  try dsimp +instances only [dft_int, dft_sl, dft_str]
  simp only [true_and, and_true, eq_self_iff_true, implies_true, reduceCtorEq, false_implies, true_implies, decide_eq_true_eq, decide_eq_false_iff_not, beq_self_eq_true, Bool.not_eq_true', ne_eq, Decidable.not_not, List.nil_append, List.length_singleton, List.length_cons, List.length_nil, Nat.zero_add, Nat.add_zero, Nat.mul_one, and_self, beq_iff_eq, Bool.not_true, Bool.not_false, Bool.not_eq_false', Bool.cond_false_right, Bool.and_eq_true, imp_self, Bool.not_eq_true, Bool.cond_true_left, Bool.or_eq_true]
theorem h189 : c_stringslite_IndexByte.ok Tryz.prog GL 189 := con_ok (H := {}) (mkEnv_ok (gl := GL) (l := [(199, conSem c_bytealg_IndexByteString)]) (q := []) (d := []) _ tyOk (by kernel_rfl) ⟨h199, trivial⟩ trivial trivial) (by kernel_rfl) (by kernel_rfl) (Eq.mp e189 k189)
def t178 : Prop :=
  ∀ (x : q0), (wsZ x.1 /\ Kd.wf q35 x.2.1 /\ True) -> True -> True /\ (∀ (y : q1), (q36 y) -> y.1 = idxB x.1 x.2.1 -> y.1 = idxB x.1 x.2.1) /\ True
theorem e178 : t178 = Con.vc c_strings_IndexByte GL (mkEnv ty [(189, conSem c_stringslite_IndexByte)] [] [] [0, 1, 4]) {} Tryz.f178.ntmps Tryz.f178.results.toList (bodyOf Tryz.f178) := by kernel_rfl
theorem k178 : t178 := by
  unfold t178
  delta q0 wsZ q35 q1 q36 wiZ
  rintro ⟨l, c, _⟩ hx _
  try dsimp +instances only [dft_int, dft_sl, dft_str]
  simp only [true_and, and_true, eq_self_iff_true, implies_true, reduceCtorEq, false_implies, true_implies, decide_eq_true_eq, decide_eq_false_iff_not, beq_self_eq_true, Bool.not_eq_true', ne_eq, Decidable.not_not, List.nil_append, List.length_singleton, List.length_cons, List.length_nil, Nat.zero_add, Nat.add_zero, Nat.mul_one, and_self, beq_iff_eq, Bool.not_true, Bool.not_false, Bool.not_eq_false', Bool.cond_false_right, Bool.and_eq_true, imp_self, Bool.not_eq_true, Bool.cond_true_left, Bool.or_eq_true]
theorem h178 : c_strings_IndexByte.ok Tryz.prog GL 178 := con_ok (H := {}) (mkEnv_ok (gl := GL) (l := [(189, conSem c_stringslite_IndexByte)]) (q := []) (d := []) _ tyOk (by kernel_rfl) ⟨h189.call, trivial⟩ trivial trivial) (by kernel_rfl) (by kernel_rfl) (Eq.mp e178 k178)
theorem h188 : c_stringslite_Index.ok Tryz.prog GL 188 := by
  refine lib_ok (ks := [Kd.str, Kd.str]) (rs := [I64]) Tryz.func188 (by kernel_rfl) (by decide) ?_
  rintro w F ⟨l, m, u⟩ vs h hg hp
  obtain ⟨v1, r1, rfl, h1, v2, r2, rfl, h2, rfl⟩ := h
  obtain ⟨s, rfl, rfl, hs⟩ := VRep_str.1 h1
  obtain ⟨t, rfl, rfl, ht⟩ := VRep_str.1 h2
  obtain ⟨_, _, k, hk⟩ := hg 0 (.num .i64) rfl
  have hp : (bs s).length < 4294967281 := hp
  rw [bs_length] at hp
  refine Calls.mono (Tryz.stringslite_Index s t k w hp hk) ?_
  rintro e w' ⟨rfl, rfl⟩
  have hb : ∀ s : ByteArray, Bys (bs s) := bs_range
  have e1 : Lib.index s.data.toList t.data.toList = idxS (bs s) (bs t) := by
    rw [← u8s_bs s, ← u8s_bs t, idxS_lib _ _ (hb s) (hb t)]
  rw [e1]
  have h1 := idxS_ge (bs s) (bs t)
  rw [bs_length] at h1
  refine ⟨Kept.refl _ _, [_], (idxS (bs s) (bs t), ()), rfl, rfl, _, [], rfl, VRep_int.2 ⟨rfl, ?_⟩, rfl⟩
  generalize idxS (bs s) (bs t) = r at h1 ⊢
  simp [InR, IntKind.min, IntKind.max, IntKind.signed, IntKind.bits]
  omega
def t186 : Prop :=
  ∀ (x : q2), (q37 x) -> List.length x.1 < q38 -> List.length x.1 < q38 /\ (∀ (y : q1), (q36 y) -> y.1 = idxS x.1 x.2.1 -> y.1 = idxS x.1 x.2.1) /\ True
theorem e186 : t186 = Con.vc c_strings_Index GL (mkEnv ty [(188, conSem c_stringslite_Index)] [] [] [0, 1, 4]) {} Tryz.f186.ntmps Tryz.f186.results.toList (bodyOf Tryz.f186) := by kernel_rfl
theorem k186 : t186 := by
  unfold t186
  delta q2 q37 q38 q1 q36 wsZ wiZ
  rintro ⟨l, c, _⟩ hx hp
  try dsimp +instances only [dft_int, dft_sl, dft_str]
  simp only [true_and, and_true, eq_self_iff_true, implies_true, reduceCtorEq, false_implies, true_implies, decide_eq_true_eq, decide_eq_false_iff_not, beq_self_eq_true, Bool.not_eq_true', ne_eq, Decidable.not_not, List.nil_append, List.length_singleton, List.length_cons, List.length_nil, Nat.zero_add, Nat.add_zero, Nat.mul_one, and_self, beq_iff_eq, Bool.not_true, Bool.not_false, Bool.not_eq_false', Bool.cond_false_right, Bool.and_eq_true, imp_self, Bool.not_eq_true, Bool.cond_true_left, Bool.or_eq_true]
  exact hp
theorem h186 : c_strings_Index.ok Tryz.prog GL 186 := con_ok (H := {}) (mkEnv_ok (gl := GL) (l := [(188, conSem c_stringslite_Index)]) (q := []) (d := []) _ tyOk (by kernel_rfl) ⟨h188.call, trivial⟩ trivial trivial) (by kernel_rfl) (by kernel_rfl) (Eq.mp e186 k186)
def t173 : Prop :=
  ∀ (x : q2), (q37 x) -> List.length x.1 < q38 -> List.length x.1 < q38 /\ (∀ (y : q1), (q36 y) -> y.1 = idxS x.1 x.2.1 -> decide (q39 y) = decide (q40 <= idxS x.1 x.2.1)) /\ True
theorem e173 : t173 = Con.vc c_strings_Contains GL (mkEnv ty [(186, conSem c_strings_Index)] [] [] [0, 1, 4]) {} Tryz.f173.ntmps Tryz.f173.results.toList (bodyOf Tryz.f173) := by kernel_rfl
theorem k173 : t173 := by
  unfold t173
  delta q2 q37 q38 q1 q36 q39 q40 wsZ wiZ q379
  rintro ⟨l, c, _⟩ hx hp
  try dsimp +instances only [dft_int, dft_sl, dft_str]
  simp only [true_and, and_true, eq_self_iff_true, implies_true, reduceCtorEq, false_implies, true_implies, decide_eq_true_eq, decide_eq_false_iff_not, beq_self_eq_true, Bool.not_eq_true', ne_eq, Decidable.not_not, List.nil_append, List.length_singleton, List.length_cons, List.length_nil, Nat.zero_add, Nat.add_zero, Nat.mul_one, and_self, beq_iff_eq, Bool.not_true, Bool.not_false, Bool.not_eq_false', Bool.cond_false_right, Bool.and_eq_true, imp_self, Bool.not_eq_true, Bool.cond_true_left, Bool.or_eq_true]
  refine ⟨hp, ?_⟩
  rintro ⟨a, _⟩ _ ea
  exact congrArg (fun a : Int => decide (0 ≤ a)) ea
theorem h173 : c_strings_Contains.ok Tryz.prog GL 173 := con_ok (H := {}) (mkEnv_ok (gl := GL) (l := [(186, conSem c_strings_Index)]) (q := []) (d := []) _ tyOk (by kernel_rfl) ⟨h186.call, trivial⟩ trivial trivial) (by kernel_rfl) (by kernel_rfl) (Eq.mp e173 k173)
def t175 : Prop :=
  ∀ (x : q2), (q37 x) -> List.length x.1 < q38 /\ List.length x.2.1 = q42 -> List.length x.1 < q38 /\ (∀ (y : q1), (q36 y) -> y.1 = idxS x.1 x.2.1 -> (decide (q39 y) = true -> (q40 <= y.1 /\
  y.1 <= (lnZ x.1)) /\ (q40 <= wrZ (y.1 + (lnZ x.2.1)) /\ wrZ (y.1 + (lnZ x.2.1)) <= (lnZ x.1)) /\ List.take (q377 y) x.1 = (q41 x).1 /\ List.drop (Int.toNat (wrZ (y.1 + (lnZ x.2.1)))) x.1 =
  (q41 x).2.1 /\ true = (q41 x).2.2) /\ (decide (q39 y) = false -> x.1 = (q41 x).1 /\ bs { data := #[] } = (q41 x).2.1 /\ false = (q41 x).2.2)) /\ True
theorem e175 : t175 = Con.vc c_stringslite_Cut GL (mkEnv ty [(188, conSem c_stringslite_Index)] [] [] [0, 1, 4, 5, 6, 7, 12]) {} Tryz.f175.ntmps Tryz.f175.results.toList (bodyOf Tryz.f175) := by kernel_rfl
theorem k175 : t175 := by
  unfold t175
  delta q2 q37 q38 q42 q1 q36 q39 q40 lnZ wrZ q377 q41 wsZ wiZ q379 q402
  rintro ⟨l, c, _⟩ hx hp
  have h1 : l.length < 4294967281 := hp.1
  have h2 : c.length = 1 := hp.2
  try dsimp +instances only [dft_int, dft_sl, dft_str]
  simp only [true_and, and_true, eq_self_iff_true, implies_true, reduceCtorEq, false_implies, true_implies, decide_eq_true_eq, decide_eq_false_iff_not, beq_self_eq_true, Bool.not_eq_true', ne_eq, Decidable.not_not, List.nil_append, List.length_singleton, List.length_cons, List.length_nil, Nat.zero_add, Nat.add_zero, Nat.mul_one, and_self, beq_iff_eq, Bool.not_true, Bool.not_false, Bool.not_eq_false', Bool.cond_false_right, Bool.and_eq_true, imp_self, Bool.not_eq_true, Bool.cond_true_left, Bool.or_eq_true]
  refine ⟨h1, ?_⟩
  rintro ⟨a, _⟩ _ ea
  simp only at ea ⊢
  obtain ⟨d, rfl⟩ : ∃ d, c = [d] := List.length_eq_one_iff.1 h2
  rw [idxS_one] at ea
  have hb := idxB_ge l d
  have hd : ([d] : List Int).getD 0 0 = d := rfl
  rw [hd, cutD_idx]
  have hw : IntKind.wrap .i64 (a + ([d] : List Int).length) = a + 1 := wrapK _ (by simp; omega) (by simp; omega)
  rw [hw, ea]
  refine ⟨fun h => ⟨⟨h, by omega⟩, ⟨by omega, by omega⟩, ?_⟩, fun h => ?_⟩
  . rw [if_pos h, show (idxB l d + 1).toNat = (idxB l d).toNat + 1 by omega]
    exact ⟨rfl, rfl, rfl⟩
  . rw [if_neg h]
    exact ⟨rfl, rfl, rfl⟩
theorem h175 : c_stringslite_Cut.ok Tryz.prog GL 175 := con_ok (H := {}) (mkEnv_ok (gl := GL) (l := [(188, conSem c_stringslite_Index)]) (q := []) (d := []) _ tyOk (by kernel_rfl) ⟨h188.call, trivial⟩ trivial trivial) (by kernel_rfl) (by kernel_rfl) (Eq.mp e175 k175)
def t160 : Prop :=
  ∀ (x : q2), (q37 x) -> List.length x.1 < q38 /\ List.length x.2.1 = q42 -> (List.length x.1 < q38 /\ List.length x.2.1 = q42) /\ (∀ (y : q3), (wsZ y.1 /\ wsZ y.2.1 /\ wbZ y.2.2.1 /\ True)
  -> y.1 = (q41 x).1 /\ y.2.1 = (q41 x).2.1 /\ y.2.2.1 = (q41 x).2.2 -> y.1 = (q41 x).1 /\ y.2.1 = (q41 x).2.1 /\ y.2.2.1 = (q41 x).2.2) /\ True
theorem e160 : t160 = Con.vc c_strings_Cut GL (mkEnv ty [(175, conSem c_stringslite_Cut)] [] [] [0, 1, 4, 5, 6]) {} Tryz.f160.ntmps Tryz.f160.results.toList (bodyOf Tryz.f160) := by kernel_rfl
theorem k160 : t160 := by
  unfold t160
  delta q2 q37 q38 q42 q3 wsZ wbZ q41 q402 q379
  rintro ⟨l, c, _⟩ hx hp
  try dsimp +instances only [dft_int, dft_sl, dft_str]
  simp only [true_and, and_true, eq_self_iff_true, implies_true, reduceCtorEq, false_implies, true_implies, decide_eq_true_eq, decide_eq_false_iff_not, beq_self_eq_true, Bool.not_eq_true', ne_eq, Decidable.not_not, List.nil_append, List.length_singleton, List.length_cons, List.length_nil, Nat.zero_add, Nat.add_zero, Nat.mul_one, and_self, beq_iff_eq, Bool.not_true, Bool.not_false, Bool.not_eq_false', Bool.cond_false_right, Bool.and_eq_true, imp_self, Bool.not_eq_true, Bool.cond_true_left, Bool.or_eq_true]
  exact hp
theorem h160 : c_strings_Cut.ok Tryz.prog GL 160 := con_ok (H := {}) (mkEnv_ok (gl := GL) (l := [(175, conSem c_stringslite_Cut)]) (q := []) (d := []) _ tyOk (by kernel_rfl) ⟨h175.call, trivial⟩ trivial trivial) (by kernel_rfl) (by kernel_rfl) (Eq.mp e160 k160)
def t181 : Prop :=
  ∀ (x : q2), (q37 x) -> True -> (q45 x) /\ (q45 x) /\ (q44 x) /\ (q43 x) /\ (q45 x) /\ (decide (q378 x) = true -> (q46 x) = true /\ (q46 x) = true /\ True) /\ (decide (q378 x) = true -> (q46
  x) = true) /\ (bif decide (q378 x) then decide (List.take (Int.toNat (lnZ x.2.1)) x.1 = x.2.1) else false) = hasP x.2.1 x.1
theorem e181 : t181 = Con.vc c_stringslite_HasPrefix GL (mkEnv ty [] [] [] [0, 1, 4]) {} Tryz.f181.ntmps Tryz.f181.results.toList (bodyOf Tryz.f181) := by kernel_rfl
theorem k181 : t181 := by
  unfold t181
  delta q2 q37 q45 q44 q43 q378 q46 lnZ wsZ q379
  rintro ⟨l, c, _⟩ hx hp
  try dsimp +instances only [dft_int, dft_sl, dft_str]
  simp only [true_and, and_true, eq_self_iff_true, implies_true, reduceCtorEq, false_implies, true_implies, decide_eq_true_eq, decide_eq_false_iff_not, beq_self_eq_true, Bool.not_eq_true', ne_eq, Decidable.not_not, List.nil_append, List.length_singleton, List.length_cons, List.length_nil, Nat.zero_add, Nat.add_zero, Nat.mul_one, and_self, beq_iff_eq, Bool.not_true, Bool.not_false, Bool.not_eq_false', Bool.cond_false_right, Bool.and_eq_true, imp_self, Bool.not_eq_true, Bool.cond_true_left, Bool.or_eq_true]
  refine ⟨fun h => ⟨h, h, by omega, h⟩, ?_⟩
  rw [Int.toNat_natCast, hasP]
  by_cases h : l.take c.length = c
  . have := congrArg List.length h
    rw [List.length_take] at this
    rw [decide_eq_true h, decide_eq_true (by omega)]; rfl
  . rw [decide_eq_false h, Bool.and_false]
theorem h181 : c_stringslite_HasPrefix.ok Tryz.prog GL 181 := con_ok (H := {}) (mkEnv_ok (gl := GL) (l := []) (q := []) (d := []) _ tyOk (by kernel_rfl) trivial trivial trivial) (by kernel_rfl) (by kernel_rfl) (Eq.mp e181 k181)
def t185 : Prop :=
  ∀ (x : q2), (q37 x) -> True -> True /\ (∀ (y : q4), (q47 y) -> y.1 = hasP x.2.1 x.1 -> ((!y.1) = true -> (x.1 = if hasP x.2.1 x.1 = true then List.drop (List.length x.2.1) x.1 else x.1) /\
  false = hasP x.2.1 x.1) /\ ((!y.1) = false -> (q379 <= (lnZ x.2.1) /\ (lnZ x.2.1) <= (lnZ x.1)) /\ (List.drop (Int.toNat (lnZ x.2.1)) x.1 = if hasP x.2.1 x.1 = true then List.drop
  (List.length x.2.1) x.1 else x.1) /\ true = hasP x.2.1 x.1)) /\ True
theorem e185 : t185 = Con.vc c_stringslite_CutPrefix GL (mkEnv ty [(181, conSem c_stringslite_HasPrefix)] [] [] [0, 1, 4, 5, 9]) {} Tryz.f185.ntmps Tryz.f185.results.toList (bodyOf Tryz.f185) := by kernel_rfl
theorem k185 : t185 := by
  unfold t185
  delta q2 q37 q4 q47 q379 lnZ wsZ wbZ
  rintro ⟨l, c, _⟩ hx hp
  try dsimp +instances only [dft_int, dft_sl, dft_str]
  simp only [true_and, and_true, eq_self_iff_true, implies_true, reduceCtorEq, false_implies, true_implies, decide_eq_true_eq, decide_eq_false_iff_not, beq_self_eq_true, Bool.not_eq_true', ne_eq, Decidable.not_not, List.nil_append, List.length_singleton, List.length_cons, List.length_nil, Nat.zero_add, Nat.add_zero, Nat.mul_one, and_self, beq_iff_eq, Bool.not_true, Bool.not_false, Bool.not_eq_false', Bool.cond_false_right, Bool.and_eq_true, imp_self, Bool.not_eq_true, Bool.cond_true_left, Bool.or_eq_true]
  rintro ⟨a, _⟩ _ ea
  simp only at ea ⊢
  refine ⟨fun h => ?_, fun h => ?_⟩
  . rw [← ea, h]
    exact ⟨rfl, rfl⟩
  . have hq := ea.symm.trans h
    rw [← ea, h]
    unfold hasP at hq
    have := congrArg List.length (of_decide_eq_true hq)
    rw [List.length_take] at this
    exact ⟨⟨by omega, by omega⟩, rfl, rfl⟩
theorem h185 : c_stringslite_CutPrefix.ok Tryz.prog GL 185 := con_ok (H := {}) (mkEnv_ok (gl := GL) (l := [(181, conSem c_stringslite_HasPrefix)]) (q := []) (d := []) _ tyOk (by kernel_rfl) ⟨h181.call, trivial⟩ trivial trivial) (by kernel_rfl) (by kernel_rfl) (Eq.mp e185 k185)
def t172 : Prop :=
  ∀ (x : q2), (q37 x) -> True -> True /\ (∀ (y : List Int × Bool × Unit), (wsZ y.1 /\ wbZ y.2.1 /\ True) -> (y.1 = if hasP x.2.1 x.1 = true then List.drop (List.length x.2.1) x.1 else x.1) /\
  y.2.1 = hasP x.2.1 x.1 -> (y.1 = if hasP x.2.1 x.1 = true then List.drop (List.length x.2.1) x.1 else x.1) /\ y.2.1 = hasP x.2.1 x.1) /\ True
theorem e172 : t172 = Con.vc c_strings_CutPrefix GL (mkEnv ty [(185, conSem c_stringslite_CutPrefix)] [] [] [0, 1, 4, 5]) {} Tryz.f172.ntmps Tryz.f172.results.toList (bodyOf Tryz.f172) := by kernel_rfl
theorem k172 : t172 := by
  unfold t172
  delta q2 q37 wsZ wbZ
  rintro ⟨l, c, _⟩ hx hp
  try dsimp +instances only [dft_int, dft_sl, dft_str]
  simp only [true_and, and_true, eq_self_iff_true, implies_true, reduceCtorEq, false_implies, true_implies, decide_eq_true_eq, decide_eq_false_iff_not, beq_self_eq_true, Bool.not_eq_true', ne_eq, Decidable.not_not, List.nil_append, List.length_singleton, List.length_cons, List.length_nil, Nat.zero_add, Nat.add_zero, Nat.mul_one, and_self, beq_iff_eq, Bool.not_true, Bool.not_false, Bool.not_eq_false', Bool.cond_false_right, Bool.and_eq_true, imp_self, Bool.not_eq_true, Bool.cond_true_left, Bool.or_eq_true]
theorem h172 : c_strings_CutPrefix.ok Tryz.prog GL 172 := con_ok (H := {}) (mkEnv_ok (gl := GL) (l := [(185, conSem c_stringslite_CutPrefix)]) (q := []) (d := []) _ tyOk (by kernel_rfl) ⟨h185.call, trivial⟩ trivial trivial) (by kernel_rfl) (by kernel_rfl) (Eq.mp e172 k172)
end Go.Proofs.YtiofbnlbfmbodaaGreatDoor
end
section
namespace Go.Proofs.YtiofbnlbfmbodaaGreatDoor
open Go Go.Vc Go.Pl Go.Proofs
def c_utf8_DecodeRuneInString : Con := { args := [.dat .str], res := [.dat I32, .dat I64], pre := fun _ => True, post := fun x y => y.1 = (decD x.1).1 ∧ y.2.1 = (decD x.1).2 }
def c_utf8_decodeRuneInStringSlow : Con := { args := [.dat .str], res := [.dat I32, .dat I64], pre := fun _ => True, post := fun x y => y.1 = (decD x.1).1 ∧ y.2.1 = (decD x.1).2 }
def c_text_Valid : Con := { args := [.dat .str], res := [.dat I64], pre := fun _ => True, post := fun x y => y.1 = vld x.1 0 }
def c_r05_Valid : Con := { args := [.dat .str], res := [.dat I64], pre := fun x => x.1.length ≤ 1000000000, post := fun x y => y.1 = vld x.1 0 }
def c_r05_more : Con := { args := [.dat .str, .dat I64, .dat I64], res := [.dat .bool], pre := fun x => x.1.length ≤ 1000000000 ∧ 0 ≤ x.2.1 ∧ x.2.1 ≤ 1000000000 ∧ 0 ≤ x.2.2.1 ∧ x.2.2.1 ≤ 3, post := fun x y => y.1 = moreD x.1 x.2.1.toNat x.2.2.1.toNat }
def c_r05_character : Con := { args := [.dat .str, .dat I64], res := [.dat I64], pre := fun x => x.1.length ≤ 1000000000 ∧ 0 ≤ x.2.1 ∧ x.2.1 < x.1.length, post := fun x y => y.1 = chw x.1 x.2.1.toNat }
def c_text_prints : Con := { args := [.dat U8], res := [.dat .bool], pre := fun _ => True, post := fun x y => y.1 = printsD x.1 }
def c_r05_Prints : Con := { args := [.dat U8], res := [.dat .bool], pre := fun _ => True, post := fun x y => y.1 = printsD x.1 }
def c_text_May : Con := { args := [.dat I64, .dat .str], res := [.dat .bool], pre := fun _ => True, post := fun x y => y.1 = mayD x.1 x.2.1 }
def c_r05_May : Con := { args := [.dat I64, .dat .str], res := [.dat .bool], pre := fun x => x.2.1.length ≤ 1000000000, post := fun x y => y.1 = mayD x.1 x.2.1 }
def c_text_Kind : Con := { args := [.dat .str], res := [.dat I64, .dat I64], pre := fun _ => True, post := fun x y => y.1 = (kindD x.1).1 ∧ y.2.1 = (kindD x.1).2 }
def c_r05_Kind : Con := { args := [.dat .str], res := [.dat I64, .dat I64], pre := fun x => x.1.length ≤ 1000000000, post := fun x y => y.1 = (kindD x.1).1 ∧ y.2.1 = (kindD x.1).2 }
end Go.Proofs.YtiofbnlbfmbodaaGreatDoor
end
section
namespace Go.Proofs.YtiofbnlbfmbodaaGreatDoor
open Go Go.Vc Go.Pl Go.Proofs
set_option linter.unusedVariables false
set_option linter.unusedSimpArgs false
abbrev q5 := (List Int × Unit)
abbrev q6 := (Int × Int × Unit)
abbrev q7 := (Int × Bool × Unit -> Unit -> Prop)
abbrev q8 := (Int × Bool × Unit -> Unit -> Nat)
abbrev q9 := (Int × Bool × Unit)
abbrev q10 := (Int × Int × Unit -> Unit -> Prop)
abbrev q11 := (Int × Int × Unit -> Unit -> Nat)
abbrev q12 := (Int × List Int × Unit)
abbrev q482 := (0 : Int)
abbrev q510 (p0 : q5) := (Int.toNat (List.getD p0.1 (0 : Nat) (0 : Int)))
abbrev q511 := (Kd.dft (Kd.int IntKind.u8))
abbrev q501 (p0 : q5) := (Int.toNat (Int.fdiv (List.getD Lib.firstTab (q510 p0) q511) ((2 : Int) ^ (4 : Nat))))
abbrev q488 := (Kd.int IntKind.u8)
abbrev q425 (p0 : q5) := (List.getD p0.1 (1 : Nat) q482 < (List.getD accTab (q501 p0) (Kd.dft (Kd.pair q488 q488))).1)
abbrev q426 (p0 : q5) := (List.getD accTab (q501 p0) (Kd.dft (Kd.pair q488 q488)))
abbrev q387 := (1 : Nat)
abbrev q48 (p0 : q5) := (bif decide (q425 p0) then true else decide ((q426 p0).2 < List.getD p0.1 q387 q379))
abbrev q49 (p0 : q5) := (decide (q425 p0) = false -> True)
abbrev q50 (p0 : q5) := (decide (q425 p0) == false)
abbrev q51 (p0 : q5) := (List.getD p0.1 q387 q379 < (q426 p0).1)
abbrev q480 := (8 : Nat)
abbrev q486 (p0 : q5) := (List.getD Lib.firstTab (q510 p0) q511)
abbrev q427 (p0 : q5) := (IntKind.wrap IntKind.u8 (↑(BitVec.toNat (BitVec.ofInt q480 (q486 p0) &&& BitVec.ofInt q480 (7 : Int))) : Int))
abbrev q52 (p0 : q5) := ((lnZ p0.1) < wrZ (q427 p0))
abbrev q428 := (2 : Int)
abbrev q53 (p0 : q5) := (wrZ (q427 p0) <= q428)
abbrev q54 (p0 : q5) := (wrZ (q427 p0) <= (3 : Int))
abbrev q55 (p0 : q5) := (Int.fdiv (IntKind.wrap IntKind.i32 (IntKind.wrap IntKind.i32 (q486 p0) * q428 ^ (31 : Nat))) (q428 ^ (31 : Nat)))
abbrev q56 (p0 : q5) := (IntKind.wrap IntKind.u8 (↑(BitVec.toNat (BitVec.ofInt q480 (List.getD p0.1 q387 q379) &&& BitVec.ofInt q480 (63 : Int))) : Int))
abbrev q57 (p0 : q5) := (IntKind.wrap IntKind.u8 (↑(BitVec.toNat (BitVec.ofInt q480 (List.getD p0.1 (2 : Nat) q379) &&& BitVec.ofInt q480 (63 : Int))) : Int))
abbrev q487 := (128 : Int)
abbrev q58 (p0 : q5) := (bif decide (List.getD p0.1 (2 : Nat) q379 < q487) then true else decide ((191 : Int) < List.getD p0.1 (2 : Nat) q379))
abbrev q59 (p0 : q5) := (bif decide (List.getD p0.1 (3 : Nat) q379 < q487) then true else decide ((191 : Int) < List.getD p0.1 (3 : Nat) q379))
abbrev q429 := (Kd.dft q488)
abbrev q60 (p0 : q5) := ((240 : Int) <= List.getD Lib.firstTab (q510 p0) q429)
abbrev q61 (p0 : q5) := (List.getD Lib.firstTab (q510 p0) q429)
abbrev q62 (p0 : q5) := (List.getD p0.1 (2 : Nat) q379 < q487)
abbrev q63 (p0 : q5) := (List.getD p0.1 (3 : Nat) q379 < q487)
abbrev q64 (p0 : q5) := (q379 <= q379 /\ q379 < (lnZ p0.1))
abbrev q417 := (1 : Int)
abbrev q65 (p0 : q5) := (q379 <= q417 /\ q417 < (lnZ p0.1))
abbrev q66 (p0 : q5) := (List.getD p0.1 q402 q379)
abbrev q67 (p0 : q5) := ((lnZ p0.1) < q417)
abbrev q68 (p0 : q5) := (wsZ p0.1 /\ True)
abbrev q69 := (65536 : Nat)
abbrev q70 := (12 : Int)
abbrev q71 := (0 : Nat)
abbrev q72 := (1 : Int)
abbrev q73 := (4 : Int)
abbrev q74 := (2 : Nat)
abbrev q75 := (2 : Int)
abbrev q76 (p0 : q5) := (bif decide (p0.1 ≠ bs { data := #[] }) then decide (List.getD p0.1 q402 q379 < q487) else false)
abbrev q77 (p0 : q5) := (p0.1 ≠ bs { data := #[] })
abbrev q380 (p0 : List Int × Int × Int × Unit) (p1 : q9) := ((lnZ p0.1) <= wrZ (p0.2.1 + p1.1))
abbrev q78 (p0 : List Int × Int × Int × Unit) (p1 : q9) := (bif bif decide (q380 p0 p1) then true else decide (List.getD p0.1 (Int.toNat (wrZ (p0.2.1 + p1.1))) q482 < q487) then true else
  decide ((191 : Int) < List.getD p0.1 (Int.toNat (wrZ (p0.2.1 + p1.1))) q379))
abbrev q430 (p0 : List Int × Int × Int × Unit) (p1 : q9) := (bif decide ((lnZ p0.1) <= wrZ (p0.2.1 + p1.1)) then true else decide (List.getD p0.1 (Int.toNat (wrZ (p0.2.1 + p1.1))) q482 <
  q487))
abbrev q79 (p0 : List Int × Int × Int × Unit) (p1 : q9) := ((q430 p0 p1) = false -> True)
abbrev q80 (p0 : List Int × Int × Int × Unit) (p1 : q9) := ((q430 p0 p1) == false)
abbrev q81 (p0 : List Int × Int × Int × Unit) (p1 : q9) := (bif decide (q380 p0 p1) then true else decide (List.getD p0.1 (Int.toNat (wrZ (p0.2.1 + p1.1))) q482 < q487))
abbrev q82 (p0 : List Int × Int × Int × Unit) (p1 : q9) := (decide (q380 p0 p1) == false)
abbrev q83 (p0 : q9) := (wiZ p0.1 /\ wbZ p0.2.1 /\ True)
abbrev q84 := (1000000000 : Nat)
abbrev q85 (p0 : q9) := (p0.1 + q417)
abbrev q431 (p0 : q6) (p1 : q1) := (bif decide (p0.2.1 < p1.1) then true else decide ((1114111 : Int) < p0.2.1))
abbrev q86 (p0 : q6) (p1 : q1) := ((q431 p0 p1) == false && (q431 p0 p1) == false && decide ((55296 : Int) <= p0.2.1) == true)
abbrev q87 (p0 : q6) (p1 : q1) := (bif bif decide (p0.2.1 < p1.1) then true else decide ((1114111 : Int) < p0.2.1) then true else bif decide ((55296 : Int) <= p0.2.1) then decide (p0.2.1 <=
  (57343 : Int)) else false)
abbrev q88 (p0 : q6) (p1 : q1) := ((q431 p0 p1) == false && (q431 p0 p1) == false)
abbrev q89 (p0 : q0) := (bif decide (wrZ (List.getD p0.1 (Int.toNat p0.2.1) q379) < (192 : Int)) then true else decide ((247 : Int) < wrZ (List.getD p0.1 (Int.toNat p0.2.1) q379)))
abbrev q90 (p0 : q6) (p1 : q1) := (bif decide (p0.2.1 < p1.1) then true else decide ((1114111 : Int) < p0.2.1))
abbrev q91 (p0 : q0) := (wrZ (List.getD p0.1 (Int.toNat p0.2.1) q379) < (192 : Int))
abbrev q92 (p0 : q0) := (List.getD p0.1 (Int.toNat p0.2.1) q379)
abbrev q93 (p0 : q0) := (↑(chw p0.1 (Int.toNat p0.2.1)) : Int)
abbrev q94 (p0 : q6) := (wiZ p0.1 /\ wiZ p0.2.1 /\ True)
abbrev q95 (p0 : q6) := (p0.1 + q417)
abbrev q96 := (128 : Int)
abbrev q97 (p0 : q1) := (p0.1 = q379)
abbrev q98 (p0 : q1) := (decide ((97 : Int) <= p0.1) = true -> (decide ((97 : Int) <= p0.1) == true) = true /\ True)
abbrev q383 := (48 : Int)
abbrev q99 (p0 : q1) := (decide (q383 <= p0.1) = true -> (decide (q383 <= p0.1) == true) = true /\ True)
abbrev q100 (p0 : q1) := (decide ((97 : Int) <= p0.1) = true -> (decide ((97 : Int) <= p0.1) == true) = true)
abbrev q101 (p0 : q1) := (decide (q383 <= p0.1) = true -> (decide (q383 <= p0.1) == true) = true)
abbrev q102 (p0 : q1) := (bif decide (q383 <= p0.1) then decide (p0.1 <= (57 : Int)) else false)
abbrev q103 (p0 : q1) := (Kd.wf q488 p0.1 /\ True)
abbrev q382 (p0 : q1) := (bif decide ((97 : Int) <= p0.1) then decide (p0.1 <= (122 : Int)) else false)
abbrev q502 (p0 : q1) := (bif decide ((97 : Int) <= p0.1) then decide (p0.1 <= (122 : Int)) else false)
abbrev q433 (p0 : q1) := ((q502 p0) == false && (q502 p0) == false)
abbrev q481 := (65 : Int)
abbrev q432 (p0 : q1) := ((q502 p0) == false && (q502 p0) == false && decide (q481 <= p0.1) == true)
abbrev q104 (p0 : q1) := ((q382 p0) = false -> (q433 p0) = true /\ (decide (q481 <= p0.1) = true -> (q432 p0) = true) /\ True)
abbrev q105 (p0 : q1) := ((q433 p0) = true -> decide (q481 <= p0.1) = true -> (q432 p0) = true /\ True)
abbrev q434 (p0 : q1) := (bif bif decide ((97 : Int) <= p0.1) then decide (p0.1 <= (122 : Int)) else false then true else bif decide (q481 <= p0.1) then decide (p0.1 <= (90 : Int)) else
  false)
abbrev q106 (p0 : q1) := ((q434 p0) == false && (q434 p0) == false && decide (q383 <= p0.1) == true)
abbrev q107 (p0 : q1) := ((q434 p0) == false && (q434 p0) == false)
abbrev q108 (p0 : q1) := (bif bif bif decide ((97 : Int) <= p0.1) then decide (p0.1 <= (122 : Int)) else false then true else bif decide (q481 <= p0.1) then decide (p0.1 <= (90 : Int)) else
  false then true else bif decide (q383 <= p0.1) then decide (p0.1 <= (57 : Int)) else false)
abbrev q381 := (bs { data := #[(32 : UInt8), (39 : UInt8), (40 : UInt8), (41 : UInt8), (43 : UInt8), (44 : UInt8), (45 : UInt8), (46 : UInt8), (47 : UInt8), (58 : UInt8), (61 : UInt8), (63
  : UInt8)] })
abbrev q384 (p0 : q9) := (Int.toNat p0.1)
abbrev q109 (p0 : q9) (p1 : q1) := (List.getD q381 (q384 p0) q379 = p1.1)
abbrev q110 (p0 : q1) := ((q433 p0) = true -> decide (q481 <= p0.1) = true -> True)
abbrev q111 (p0 : q1) := ((q382 p0) = false -> ((q382 p0) == false) = true /\ True)
abbrev q112 (p0 : q1) := ((q434 p0) = false -> True)
abbrev q113 (p0 : q1) := ((q382 p0) = false -> ((q382 p0) == false) = true)
abbrev q114 (p0 : q1) := ((q434 p0) == false)
abbrev q115 (p0 : q1) := (bif bif decide ((97 : Int) <= p0.1) then decide (p0.1 <= (122 : Int)) else false then true else bif decide (q481 <= p0.1) then decide (p0.1 <= (90 : Int)) else
  false)
abbrev q116 (p0 : q1) := ((q382 p0) = false -> True)
abbrev q117 (p0 : q12) := ((4096 : Int) < (lnZ p0.2.1))
abbrev q118 := (19 : Int)
abbrev q435 (p0 : q12) := ((4096 : Int) < (lnZ p0.2.1))
abbrev q119 (p0 : q12) := (decide (q435 p0) == false && decide (q435 p0) == false && (bif decide (p0.1 ≠ (12 : Int)) then decide (p0.1 ≠ (19 : Int)) else false) == true)
abbrev q120 (p0 : q12) := (bif decide (q435 p0) then true else bif bif decide (p0.1 ≠ (12 : Int)) then decide (p0.1 ≠ (19 : Int)) else false then decide (p0.1 ≠ (22 : Int)) else false)
abbrev q121 (p0 : q12) := (decide (q435 p0) == false && decide (q435 p0) == false && decide (p0.1 ≠ (12 : Int)) == true)
abbrev q122 (p0 : q12) := (decide (q435 p0) == false && decide (q435 p0) == false)
abbrev q123 (p0 : q12) := (bif decide (p0.1 ≠ (12 : Int)) then decide (p0.1 ≠ (19 : Int)) else false)
abbrev q124 (p0 : q12) (p1 : q9) := ((127 : Int) < List.getD p0.2.1 (q384 p1) q379)
def t209 : Prop :=
  ∀ (x : q5), (q68 x) -> True -> (decide (q67 x) = true -> (65533 : Int) = (decD x.1).1 /\ q40 = (decD x.1).2) /\ (decide (q67 x) = false -> (q64 x) /\ (q40 <= List.getD x.1 q71 q40 /\
  List.getD x.1 q71 q40 < (↑(256 : Nat) : Int) /\ List.getD x.1 q71 q40 < (↑(256 : Nat) : Int)) /\ (decide (q60 x) = true -> q40 <= (31 : Int) /\ q40 <= (31 : Int) /\ (q64 x) /\ IntKind.wrap
  IntKind.i32 (↑(BitVec.toNat (BitVec.ofInt (32 : Nat) (IntKind.wrap IntKind.i32 (↑(BitVec.toNat (BitVec.ofInt (32 : Nat) (IntKind.wrap IntKind.i32 (q66 x)) &&& ~~~BitVec.ofInt (32 : Nat)
  (q55 x))) : Int)) ||| BitVec.ofInt (32 : Nat) (IntKind.wrap IntKind.i32 (↑(BitVec.toNat (BitVec.ofInt (32 : Nat) (65533 : Int) &&& BitVec.ofInt (32 : Nat) (q55 x))) : Int)))) : Int) = (decD
  x.1).1 /\ q72 = (decD x.1).2) /\ (decide (q60 x) = false -> q40 <= q73 /\ (q40 <= Int.fdiv (q61 x) ((2 : Int) ^ (4 : Nat)) /\ Int.fdiv (q61 x) ((2 : Int) ^ (4 : Nat)) < (↑(16 : Nat) : Int)
  /\ Int.fdiv (q61 x) ((2 : Int) ^ (4 : Nat)) < (↑(16 : Nat) : Int)) /\ q74 <= q69 /\ (decide (q52 x) = true -> (65533 : Int) = (decD x.1).1 /\ q72 = (decD x.1).2) /\ (decide (q52 x) = false
  -> (q65 x) /\ (q49 x) /\ (decide (q51 x) = false -> (q50 x) = true /\ True) /\ (q49 x) /\ (decide (q51 x) = false -> (q50 x) = true /\ (q50 x) = true /\ True) /\ (decide (q51 x) = false ->
  (q50 x) = true) /\ ((q48 x) = true -> (65533 : Int) = (decD x.1).1 /\ q72 = (decD x.1).2) /\ ((q48 x) = false -> (decide (q53 x) = true -> q40 <= (6 : Int) /\ IntKind.wrap IntKind.i32
  (↑(BitVec.toNat (BitVec.ofInt (32 : Nat) (IntKind.wrap IntKind.i32 (IntKind.wrap IntKind.i32 (IntKind.wrap IntKind.u8 (↑(BitVec.toNat (BitVec.ofInt q480 (q66 x) &&& BitVec.ofInt q480 (31 :
  Int))) : Int)) * q75 ^ (6 : Nat))) ||| BitVec.ofInt (32 : Nat) (IntKind.wrap IntKind.i32 (q56 x)))) : Int) = (decD x.1).1 /\ q75 = (decD x.1).2) /\ (decide (q53 x) = false -> (q40 <= q75 /\
  q75 < (lnZ x.1)) /\ (decide (q62 x) = false -> True) /\ (decide (q62 x) = false -> (decide (q62 x) == false) = true /\ True) /\ (decide (q62 x) = false -> (decide (q62 x) == false) = true)
  /\ ((q58 x) = true -> (65533 : Int) = (decD x.1).1 /\ q72 = (decD x.1).2) /\ ((q58 x) = false -> (decide (q54 x) = true -> q40 <= q70 /\ q40 <= (6 : Int) /\ IntKind.wrap IntKind.i32
  (↑(BitVec.toNat (BitVec.ofInt (32 : Nat) (IntKind.wrap IntKind.i32 (↑(BitVec.toNat (BitVec.ofInt (32 : Nat) (IntKind.wrap IntKind.i32 (IntKind.wrap IntKind.i32 (IntKind.wrap IntKind.u8
  (↑(BitVec.toNat (BitVec.ofInt q480 (q66 x) &&& BitVec.ofInt q480 (15 : Int))) : Int)) * q75 ^ (12 : Nat))) ||| BitVec.ofInt (32 : Nat) (IntKind.wrap IntKind.i32 (IntKind.wrap IntKind.i32
  (q56 x) * q75 ^ (6 : Nat))))) : Int)) ||| BitVec.ofInt (32 : Nat) (IntKind.wrap IntKind.i32 (q57 x)))) : Int) = (decD x.1).1 /\ (3 : Int) = (decD x.1).2) /\ (decide (q54 x) = false -> (q40
  <= (3 : Int) /\ (3 : Int) < (lnZ x.1)) /\ (decide (q63 x) = false -> True) /\ (decide (q63 x) = false -> (decide (q63 x) == false) = true /\ True) /\ (decide (q63 x) = false -> (decide (q63
  x) == false) = true) /\ ((q59 x) = true -> (65533 : Int) = (decD x.1).1 /\ q72 = (decD x.1).2) /\ ((q59 x) = false -> q40 <= (18 : Int) /\ q40 <= q70 /\ q40 <= (6 : Int) /\ IntKind.wrap
  IntKind.i32 (↑(BitVec.toNat (BitVec.ofInt (32 : Nat) (IntKind.wrap IntKind.i32 (↑(BitVec.toNat (BitVec.ofInt (32 : Nat) (IntKind.wrap IntKind.i32 (↑(BitVec.toNat (BitVec.ofInt (32 : Nat)
  (IntKind.wrap IntKind.i32 (IntKind.wrap IntKind.i32 (IntKind.wrap IntKind.u8 (↑(BitVec.toNat (BitVec.ofInt q480 (q66 x) &&& BitVec.ofInt q480 (7 : Int))) : Int)) * q75 ^ (18 : Nat))) |||
  BitVec.ofInt (32 : Nat) (IntKind.wrap IntKind.i32 (IntKind.wrap IntKind.i32 (q56 x) * q75 ^ (12 : Nat))))) : Int)) ||| BitVec.ofInt (32 : Nat) (IntKind.wrap IntKind.i32 (IntKind.wrap
  IntKind.i32 (q57 x) * q75 ^ (6 : Nat))))) : Int)) ||| BitVec.ofInt (32 : Nat) (IntKind.wrap IntKind.i32 (IntKind.wrap IntKind.u8 (↑(BitVec.toNat (BitVec.ofInt q480 (List.getD x.1 (3 : Nat)
  q40) &&& BitVec.ofInt q480 (63 : Int))) : Int))))) : Int) = (decD x.1).1 /\ q73 = (decD x.1).2))))))))
theorem e209 : t209 = Con.vc c_utf8_decodeRuneInStringSlow GL (mkEnv ty [] [] [] [0, 2, 3, 4, 5, 6, 7, 8, 9, 10, 11, 12, 16, 23, 45, 57, 59, 75, 77, 98]) {} Tryz.f209.ntmps Tryz.f209.results.toList (bodyOf Tryz.f209) := by kernel_rfl
theorem k209 : t209 := by
  unfold t209
  delta q5 q68 q67 q40 q64 q71 q60 q66 q55 q72 q73 q61 q74 q69 q52 q65 q49 q51 q50 q48 q53 q480 q75 q56 lnZ q62 q58 q54 q70 q57 q63 q59 wsZ q417 q379 q510 q429 q402 q486 q428 wrZ q427 q425 q387 q426 q487 q488 q511 q482 q501
  rintro ⟨l, _⟩ hx hp
  have hw : Kd.wf Kd.str l := hx.1
  try dsimp +instances only [dft_int, dft_sl, dft_str]
  simp only [true_and, and_true, eq_self_iff_true, implies_true, reduceCtorEq, false_implies, true_implies, decide_eq_true_eq, decide_eq_false_iff_not, beq_self_eq_true, Bool.not_eq_true', ne_eq, Decidable.not_not, List.nil_append, List.length_singleton, List.length_cons, List.length_nil, Nat.zero_add, Nat.add_zero, Nat.mul_one, and_self, beq_iff_eq, Bool.not_true, Bool.not_false, Bool.not_eq_false', Bool.cond_false_right, Bool.and_eq_true, imp_self, Bool.not_eq_true, Bool.cond_true_left, Bool.or_eq_true]
  simp only [Bool.or_eq_false_iff, decide_eq_false_iff_not]
  refine ⟨fun h => ?_, fun hne => ?_⟩
  . have : l = [] := List.eq_nil_of_length_eq_zero (by omega)
    subst this
    exact ⟨rfl, rfl⟩
  have hl : 1 ≤ l.length := by omega
  have hD : decD l = (((udec l 0).1 : Int), ((udec l 0).2 : Int)) := by rw [decD, if_neg (fun e => by rw [e] at hl; simp at hl)]
  have hu : udec l 0 = Lib.decodeN l.length (l.getD 0 0).toNat (l.getD 1 0).toNat (l.getD 2 0).toNat (l.getD 3 0).toNat := rfl
  rw [hD, hu]
  obtain ⟨b0, e0, g0⟩ := nat_of l hw 0
  obtain ⟨b1, e1, g1⟩ := nat_of l hw 1
  obtain ⟨b2, e2, g2⟩ := nat_of l hw 2
  obtain ⟨b3, e3, g3⟩ := nat_of l hw 3
  rw [e0, e1, e2, e3, Int.toNat_natCast, Int.toNat_natCast, Int.toNat_natCast, Int.toNat_natCast, first_get b0 g0]
  obtain ⟨f1, f2, f3⟩ := first_sz b0
  generalize hn : l.length = n at *
  refine ⟨⟨by decide, by omega⟩, ⟨by omega, by omega⟩, fun hF => ?_, fun hF => ?_⟩
  . have hF : 240 ≤ Lib.firstT b0 := by omega
    refine ⟨by decide, by decide, ⟨by decide, by omega⟩, ?_⟩
    rw [mask_eq b0 g0 hF]
    rcases f2 hF with h | h
    . rw [if_pos h, Lib.ascii_eq _ _ _ _ _ h]; exact ⟨rfl, rfl⟩
    . rw [if_neg (by omega), Lib.bad_eq _ _ _ _ _ g0 h]; exact ⟨rfl, rfl⟩
  . have hF : Lib.firstT b0 < 240 := by omega
    obtain ⟨s2, s4⟩ := f3 hF
    have hs := Lib.slow_eq n b0 b1 b2 b3 (by omega) g1 g2 g3 hF
    have hm : IntKind.i64.wrap (IntKind.u8.wrap ↑(BitVec.ofInt 8 (Lib.firstT b0 : Int) &&& BitVec.ofInt 8 7).toNat) = ((Lib.firstT b0 % 8 : Nat) : Int) := by
      rw [and_7 _ (by omega), wrapK _ (by omega) (by omega)]
    have hfd : (Lib.firstT b0 : Int).fdiv (2 ^ 4) = ((Lib.firstT b0 / 16 : Nat) : Int) := by
      rw [Int.fdiv_eq_ediv_of_nonneg _ (by decide)]
      omega
    have hac : Lib.firstT b0 / 16 < 16 := by omega
    rw [hm, hfd, Int.toNat_natCast, acc_get _ hac, ← hs]
    generalize Lib.firstT b0 % 8 = sz at *
    generalize Lib.firstT b0 / 16 = ac at *
    simp only
    refine ⟨by decide, ⟨by omega, by omega⟩, by decide, fun h => ?_, fun h => ⟨⟨by decide, by omega⟩, fun hb => ?_, fun hb => ⟨fun hz => ?_, fun hz => ⟨⟨by decide, by omega⟩, fun hc => ?_, fun hc => ⟨fun hz3 => ?_, fun hz3 => ⟨⟨by decide, by omega⟩, fun hd => ?_, fun hd => ?_⟩⟩⟩⟩⟩⟩
    . rw [Lib.slowN, if_pos (by omega)]; exact ⟨rfl, rfl⟩
    . rw [Lib.slowN, if_neg (by omega), if_pos (by omega)]; exact ⟨rfl, rfl⟩
    . rw [Lib.slowN, if_neg (by omega), if_neg (by omega), if_pos (by omega)]
      refine ⟨by decide, ?_, rfl⟩
      rw [and_31 b0 g0, and_63 b1 g1, or2 _ _ (by omega) (by omega)]
    . rw [Lib.slowN, if_neg (by omega), if_neg (by omega), if_neg (by omega), if_pos (by omega)]; exact ⟨rfl, rfl⟩
    . rw [Lib.slowN, if_neg (by omega), if_neg (by omega), if_neg (by omega), if_neg (by omega), if_pos (by omega)]
      refine ⟨by decide, by decide, ?_, rfl⟩
      rw [and_15 b0 g0, and_63 b1 g1, and_63 b2 g2, or3 _ _ _ (by omega) (by omega) (by omega)]
    . rw [Lib.slowN, if_neg (by omega), if_neg (by omega), if_neg (by omega), if_neg (by omega), if_neg (by omega), if_pos (by omega)]; exact ⟨rfl, rfl⟩
    . rw [Lib.slowN, if_neg (by omega), if_neg (by omega), if_neg (by omega), if_neg (by omega), if_neg (by omega), if_neg (by omega)]
      refine ⟨by decide, by decide, by decide, ?_, rfl⟩
      rw [and_7 b0 g0, and_63 b1 g1, and_63 b2 g2, and_63 b3 g3, or4 _ _ _ _ (by omega) (by omega) (by omega) (by omega)]
theorem h209 : c_utf8_decodeRuneInStringSlow.ok Tryz.prog GL 209 := con_ok (H := {}) (mkEnv_ok (gl := GL) (l := []) (q := []) (d := []) _ tyOk (by kernel_rfl) trivial trivial trivial) (by kernel_rfl) (by kernel_rfl) (Eq.mp e209 k209)
def t208 : Prop :=
  ∀ (x : q5), (q68 x) -> True -> (decide (q77 x) = true -> True) /\ (decide (q77 x) = true -> (decide (q77 x) == true) = true /\ (q64 x) /\ True) /\ (decide (q77 x) = true -> (decide (q77 x)
  == true) = true /\ True) /\ (decide (q77 x) = true -> (decide (q77 x) == true) = true) /\ ((q76 x) = true -> (q64 x) /\ IntKind.wrap IntKind.i32 (q66 x) = (decD x.1).1 /\ q72 = (decD
  x.1).2) /\ ((q76 x) = false -> True /\ (∀ (y : q6), (Kd.wf (Kd.int IntKind.i32) y.1 /\ wiZ y.2.1 /\ True) -> y.1 = (decD x.1).1 /\ y.2.1 = (decD x.1).2 -> y.1 = (decD x.1).1 /\ y.2.1 =
  (decD x.1).2) /\ True)
theorem e208 : t208 = Con.vc c_utf8_DecodeRuneInString GL (mkEnv ty [(209, conSem c_utf8_decodeRuneInStringSlow)] [] [] [0, 2, 3, 10]) {} Tryz.f208.ntmps Tryz.f208.results.toList (bodyOf Tryz.f208) := by kernel_rfl
theorem k208 : t208 := by
  unfold t208
  delta q5 q68 q77 q64 q76 q66 q72 q6 wiZ wsZ q379 lnZ q402 q487
  rintro ⟨l, _⟩ hx hp
  have hw : Kd.wf Kd.str l := hx.1
  try dsimp +instances only [dft_int, dft_sl, dft_str]
  simp only [true_and, and_true, eq_self_iff_true, implies_true, reduceCtorEq, false_implies, true_implies, decide_eq_true_eq, decide_eq_false_iff_not, beq_self_eq_true, Bool.not_eq_true', ne_eq, Decidable.not_not, List.nil_append, List.length_singleton, List.length_cons, List.length_nil, Nat.zero_add, Nat.add_zero, Nat.mul_one, and_self, beq_iff_eq, Bool.not_true, Bool.not_false, Bool.not_eq_false', Bool.cond_false_right, Bool.and_eq_true, imp_self, Bool.not_eq_true, Bool.cond_true_left, Bool.or_eq_true]
  rw [bs_nil]
  refine ⟨fun h => ⟨h, by decide, by have := List.length_pos_iff.2 h; omega⟩, fun h => ⟨⟨by decide, by have := List.length_pos_iff.2 h.1; omega⟩, ?_⟩⟩
  have hb := str_get hw 0
  have hu := udec_ascii l 0 (by omega)
  rw [decD, if_neg h.1, hu]
  refine ⟨?_, rfl⟩
  show _ = (((l.getD 0 0).toNat : Nat) : Int)
  have h2 := h.2
  generalize l.getD 0 0 = b at hb h2 ⊢
  simp [IntKind.wrap, IntKind.signed, IntKind.bits]
  omega
theorem h208 : c_utf8_DecodeRuneInString.ok Tryz.prog GL 208 := con_ok (H := {}) (mkEnv_ok (gl := GL) (l := [(209, conSem c_utf8_decodeRuneInStringSlow)]) (q := []) (d := []) _ tyOk (by kernel_rfl) ⟨h209.call, trivial⟩ trivial trivial) (by kernel_rfl) (by kernel_rfl) (Eq.mp e208 k208)
def t206 : Prop :=
  ∀ (x : q5), (q68 x) -> True -> ∃ (I : Int × Unit -> Nat × Unit -> Prop), ∃ (μ : Int × Unit -> Nat × Unit -> Nat), (x.1 = x.1 /\ x.1 = x.1 /\ I (q40, ()) (q71, ())) /\ ∀ (y : q1) (z : Nat ×
  Unit), (q36 y) -> True -> I y z -> (z.1 < List.length x.1 -> (decide ((↑(udec x.1 z.1).1 : Int) ≠ (65533 : Int)) = true -> x.1 = x.1 /\ x.1 = x.1 /\ I (y.1, ()) (z.1 + (udec x.1 z.1).2, ())
  /\ μ (y.1, ()) (z.1 + (udec x.1 z.1).2, ()) < μ y z) /\ (decide ((↑(udec x.1 z.1).1 : Int) ≠ (65533 : Int)) = false -> (q40 <= (↑z.1 : Int) /\ (↑z.1 : Int) <= (lnZ x.1)) /\ True /\ (∀ (y_1
  : q6), (Kd.wf (Kd.int IntKind.i32) y_1.1 /\ wiZ y_1.2.1 /\ True) -> y_1.1 = (decD (List.drop (Int.toNat (↑z.1 : Int)) x.1)).1 /\ y_1.2.1 = (decD (List.drop (Int.toNat (↑z.1 : Int)) x.1)).2
  -> (decide (y_1.2.1 = q72) = true -> (↑z.1 : Int) = (↑(vld x.1 q71) : Int)) /\ (decide (y_1.2.1 = q72) = false -> x.1 = x.1 /\ x.1 = x.1 /\ I (y.1, ()) (z.1 + (udec x.1 z.1).2, ()) /\ μ
  (y.1, ()) (z.1 + (udec x.1 z.1).2, ()) < μ y z)) /\ True)) /\ (List.length x.1 <= z.1 -> (lnZ x.1) = (↑(vld x.1 q71) : Int))
theorem e206 : t206 = Con.vc c_text_Valid GL (mkEnv ty [(208, conSem c_utf8_DecodeRuneInString)] [] [] [0, 2, 3, 4, 6, 8, 9, 10, 14, 23]) {} Tryz.f206.ntmps Tryz.f206.results.toList (bodyOf Tryz.f206) := by kernel_rfl
theorem k206 : t206 := by
  unfold t206
  delta q5 q68 q40 q71 q1 q36 lnZ q6 wiZ q72 wsZ
  rintro ⟨l, _⟩ hx hp
  have hw : Kd.wf Kd.str l := hx.1
  try dsimp +instances only [dft_int, dft_sl, dft_str]
  simp only [true_and, and_true, eq_self_iff_true, implies_true, reduceCtorEq, false_implies, true_implies, decide_eq_true_eq, decide_eq_false_iff_not, beq_self_eq_true, Bool.not_eq_true', ne_eq, Decidable.not_not, List.nil_append, List.length_singleton, List.length_cons, List.length_nil, Nat.zero_add, Nat.add_zero, Nat.mul_one, and_self, beq_iff_eq, Bool.not_true, Bool.not_false, Bool.not_eq_false', Bool.cond_false_right, Bool.and_eq_true, imp_self, Bool.not_eq_true, Bool.cond_true_left, Bool.or_eq_true]
  refine ⟨fun _ z => z.1 ≤ l.length ∧ vld l 0 = vld l z.1, fun _ z => l.length - z.1, ⟨Nat.zero_le _, rfl⟩, ?_⟩
  rintro ⟨r, _⟩ ⟨i, _⟩ _ ⟨h0, h1⟩
  simp only at h0 h1 ⊢
  refine ⟨fun hlt => ?_, fun hge => ?_⟩
  . have hu := udec_w l i hlt
    have go : ¬ ((udec l i).1 = 65533 ∧ (udec l i).2 = 1) → (i + (udec l i).2 ≤ l.length ∧ vld l 0 = vld l (i + (udec l i).2)) ∧ l.length - (i + (udec l i).2) < l.length - i := fun h => by
      have hc : chw l i = (udec l i).2 := by rw [chw, if_neg h]
      have := vld_step hlt (by rw [hc]; omega)
      rw [hc] at this
      exact ⟨⟨hu.2.2, by rw [h1, this]⟩, by omega⟩
    refine ⟨fun h => go (fun hc => h (by omega)), fun h => ⟨⟨by omega, by omega⟩, ?_⟩⟩
    rintro ⟨a, b, _⟩ _ ⟨ea, eb⟩
    simp only at ea eb ⊢
    rw [Int.toNat_natCast, dec_drop l i hlt] at ea eb
    simp only at ea eb
    refine ⟨fun hb => ?_, fun hb => go (fun hc => hb (by omega))⟩
    rw [h1, vld_stop (fun hc => hc.2 (by rw [chw, if_pos (by omega)]))]
  . rw [h1, vld_stop (fun hc => by omega)]
    omega
theorem h206 : c_text_Valid.ok Tryz.prog GL 206 := con_ok (H := {}) (mkEnv_ok (gl := GL) (l := [(208, conSem c_utf8_DecodeRuneInString)]) (q := []) (d := []) _ tyOk (by kernel_rfl) ⟨h208.call, trivial⟩ trivial trivial) (by kernel_rfl) (by kernel_rfl) (Eq.mp e206 k206)
def t205 : Prop :=
  ∀ (x : List Int × Int × Int × Unit), (wsZ x.1 /\ wiZ x.2.1 /\ wiZ x.2.2.1 /\ True) -> List.length x.1 <= q84 /\ q40 <= x.2.1 /\ x.2.1 <= (1000000000 : Int) /\ q40 <= x.2.2.1 /\ x.2.2.1 <=
  (3 : Int) -> ∃ (I : q7), ∃ (μ : q8), (x.1 = x.1 /\ x.2.1 = x.2.1 /\ x.2.2.1 = x.2.2.1 /\ I (q40, false, ()) ()) /\ ∀ (y : q9) (z : Unit), (q83 y) -> True -> I y z -> (decide (y.1 < x.2.2.1)
  = true -> (decide (q380 x y) = false -> True) /\ (decide (q380 x y) = false -> True) /\ (decide (q380 x y) = false -> True) /\ (decide (q380 x y) = false -> (q82 x y) = true /\ (q82 x y) =
  true /\ True) /\ (decide (q380 x y) = false -> (q82 x y) = true /\ (q82 x y) = true /\ (q40 <= wrZ (x.2.1 + y.1) /\ wrZ (x.2.1 + y.1) < (lnZ x.1)) /\ True) /\ (decide (q380 x y) = false ->
  (q82 x y) = true /\ True) /\ (decide (q380 x y) = false -> (q82 x y) = true) /\ (q79 x y) /\ (q79 x y) /\ (q79 x y) /\ ((q81 x y) = false -> (q80 x y) = true /\ (q80 x y) = true /\ True) /\
  ((q81 x y) = false -> (q80 x y) = true /\ (q80 x y) = true /\ (q40 <= wrZ (x.2.1 + y.1) /\ wrZ (x.2.1 + y.1) < (lnZ x.1)) /\ True) /\ ((q81 x y) = false -> (q80 x y) = true /\ True) /\
  ((q81 x y) = false -> (q80 x y) = true) /\ ((q78 x y) = true -> false = moreD x.1 (Int.toNat x.2.1) (Int.toNat x.2.2.1)) /\ ((q78 x y) = false -> x.1 = x.1 /\ x.2.1 = x.2.1 /\ x.2.2.1 =
  x.2.2.1 /\ I (wrZ (q85 y), y.2.1, ()) () /\ μ (wrZ (q85 y), y.2.1, ()) () < μ y z)) /\ (decide (y.1 < x.2.2.1) = false -> true = moreD x.1 (Int.toNat x.2.1) (Int.toNat x.2.2.1))
theorem e205 : t205 = Con.vc c_r05_more GL (mkEnv ty [] [] [] [0, 1, 2, 6, 7, 10, 34]) {} Tryz.f205.ntmps Tryz.f205.results.toList (bodyOf Tryz.f205) := by kernel_rfl
theorem k205 : t205 := by
  unfold t205
  delta wsZ wiZ q84 q40 q7 q8 q9 q83 q380 q82 wrZ lnZ q79 q81 q80 q78 q85 wbZ q430 q482 q487 q379 q417
  rintro ⟨l, m, n, _⟩ hx ⟨hp1, hp2, hp3, hp4, hp5⟩
  have hp1 : l.length ≤ 1000000000 := hp1
  have hp2 : 0 ≤ m := hp2
  have hp3 : m ≤ 1000000000 := hp3
  have hp4 : 0 ≤ n := hp4
  have hp5 : n ≤ 3 := hp5
  try dsimp +instances only [dft_int, dft_sl, dft_str]
  simp only [true_and, and_true, eq_self_iff_true, implies_true, reduceCtorEq, false_implies, true_implies, decide_eq_true_eq, decide_eq_false_iff_not, beq_self_eq_true, Bool.not_eq_true', ne_eq, Decidable.not_not, List.nil_append, List.length_singleton, List.length_cons, List.length_nil, Nat.zero_add, Nat.add_zero, Nat.mul_one, and_self, beq_iff_eq, Bool.not_true, Bool.not_false, Bool.not_eq_false', Bool.cond_false_right, Bool.and_eq_true, imp_self, Bool.not_eq_true, Bool.cond_true_left, Bool.or_eq_true]
  refine ⟨fun y _ => 0 ≤ y.1 ∧ y.1 ≤ n ∧ ∀ j, j < y.1.toNat → m.toNat + j < l.length ∧ 128 ≤ l.getD (m.toNat + j) 0 ∧ l.getD (m.toNat + j) 0 ≤ 191, fun y _ => (n - y.1).toNat, ⟨by omega, hp4, fun j hj => by simp at hj⟩, ?_⟩
  rintro ⟨i, b, _⟩ z _ ⟨h0, h1, h2⟩
  simp only at h0 h1 h2 ⊢
  have hw : IntKind.wrap .i64 (m + i) = m + i := wrapK _ (by omega) (by omega)
  have hw2 : IntKind.wrap .i64 (i + 1) = i + 1 := wrapK _ (by omega) (by omega)
  have e : (m + i).toNat = m.toNat + i.toNat := by omega
  refine ⟨fun hlt => ⟨fun h => ⟨h, h, by rw [hw]; omega, by omega⟩, fun h => ⟨h, h, by rw [hw]; omega, ?_⟩, fun h => ?_, fun h => ?_⟩, fun hge => ?_⟩
  . rcases Bool.or_eq_false_iff.1 h with ⟨h3, _⟩
    have := of_decide_eq_false h3
    omega
  . symm
    rw [moreD, List.all_eq_false]
    refine ⟨i.toNat, by simp; omega, ?_⟩
    rw [hw, e] at h
    simp only [decide_eq_true_eq]
    omega
  . rcases Bool.or_eq_false_iff.1 h with ⟨h3, h4⟩
    rcases Bool.or_eq_false_iff.1 h3 with ⟨h5, h6⟩
    have h5 := of_decide_eq_false h5
    have h6 := of_decide_eq_false h6
    have h4 := of_decide_eq_false h4
    rw [hw] at h5 h6 h4
    rw [e] at h6 h4
    rw [hw2]
    refine ⟨⟨by omega, by omega, fun j hj => ?_⟩, by omega⟩
    by_cases hji : j < i.toNat
    . exact h2 j hji
    . rw [show j = i.toNat by omega]
      omega
  . symm
    rw [moreD, List.all_eq_true]
    intro j hj
    rw [decide_eq_true_eq]
    exact h2 j (by simp at hj; omega)
theorem h205 : c_r05_more.ok Tryz.prog GL 205 := con_ok (H := {}) (mkEnv_ok (gl := GL) (l := []) (q := []) (d := []) _ tyOk (by kernel_rfl) trivial trivial trivial) (by kernel_rfl) (by kernel_rfl) (Eq.mp e205 k205)
def t200 : Prop :=
  ∀ (x : q0), (wsZ x.1 /\ wiZ x.2.1 /\ True) -> List.length x.1 <= q84 /\ q40 <= x.2.1 /\ x.2.1 < (lnZ x.1) -> (q40 <= x.2.1 /\ x.2.1 < (lnZ x.1)) /\ (decide (wrZ (q92 x) < q96) = true -> q72
  = (q93 x)) /\ (decide (wrZ (q92 x) < q96) = false -> (decide (q91 x) = false -> True) /\ (decide (q91 x) = false -> (decide (q91 x) == false) = true /\ True) /\ (decide (q91 x) = false ->
  (decide (q91 x) == false) = true) /\ ((q89 x) = true -> q40 = (q93 x)) /\ ((q89 x) = false -> ∃ (J : q10), ((decide ((224 : Int) <= wrZ (q92 x)) = true -> Value.bool false = Value.bool
  false /\ Value.bool false = Value.bool false /\ wrZ (q92 x) = wrZ (q92 x) /\ q40 = q40 /\ x.1 = x.1 /\ x.2.1 = x.2.1 /\ J (wrZ (wrZ (q92 x) - (224 : Int)), q75, ()) ()) /\ (decide ((224 :
  Int) <= wrZ (q92 x)) = false -> Value.bool false = Value.bool false /\ Value.bool false = Value.bool false /\ wrZ (q92 x) = wrZ (q92 x) /\ q40 = q40 /\ x.1 = x.1 /\ x.2.1 = x.2.1 /\ J (wrZ
  (wrZ (q92 x) - (192 : Int)), q72, ()) ())) /\ ∀ (u : q6) (z : Unit), (q94 u) -> True -> J u z -> ∃ (J : q10), ((decide ((240 : Int) <= wrZ (q92 x)) = true -> Value.bool false = Value.bool
  false /\ Value.bool false = Value.bool false /\ wrZ (q92 x) = wrZ (q92 x) /\ q40 = q40 /\ x.1 = x.1 /\ x.2.1 = x.2.1 /\ J (wrZ (wrZ (q92 x) - (240 : Int)), (3 : Int), ()) ()) /\ (decide
  ((240 : Int) <= wrZ (q92 x)) = false -> Value.bool false = Value.bool false /\ Value.bool false = Value.bool false /\ wrZ (q92 x) = wrZ (q92 x) /\ q40 = q40 /\ x.1 = x.1 /\ x.2.1 = x.2.1 /\
  J (u.1, u.2.1, ()) ())) /\ ∀ (u : q6) (z : Unit), (q94 u) -> True -> J u z -> (List.length x.1 <= q84 /\ q40 <= wrZ (x.2.1 + q72) /\ wrZ (x.2.1 + q72) <= (1000000000 : Int) /\ q40 <= u.2.1
  /\ u.2.1 <= (3 : Int)) /\ (∀ (y : q4), (q47 y) -> y.1 = moreD x.1 (Int.toNat (wrZ (x.2.1 + q72))) (Int.toNat u.2.1) -> ((!y.1) = true -> q40 = (q93 x)) /\ ((!y.1) = false -> ∃ (I : q10), ∃
  (μ : q11), (Value.bool false = Value.bool false /\ u.2.1 = u.2.1 /\ Value.bool false = Value.bool false /\ Value.bool false = Value.bool false /\ wrZ (q92 x) = wrZ (q92 x) /\ q40 = q40 /\
  x.1 = x.1 /\ x.2.1 = x.2.1 /\ I (q72, u.1, ()) ()) /\ ∀ (y : q6) (z : Unit), (q94 y) -> True -> I y z -> (decide (y.1 <= u.2.1) = true -> (q40 <= wrZ (x.2.1 + y.1) /\ wrZ (x.2.1 + y.1) <
  (lnZ x.1)) /\ Value.bool false = Value.bool false /\ u.2.1 = u.2.1 /\ Value.bool false = Value.bool false /\ Value.bool false = Value.bool false /\ wrZ (q92 x) = wrZ (q92 x) /\ q40 = q40 /\
  x.1 = x.1 /\ x.2.1 = x.2.1 /\ I (wrZ (q95 y), wrZ (wrZ (wrZ ((64 : Int) * y.2.1) + wrZ (List.getD x.1 (Int.toNat (wrZ (x.2.1 + y.1))) q40)) - q96), ()) () /\ μ (wrZ (q95 y), wrZ (wrZ (wrZ
  ((64 : Int) * y.2.1) + wrZ (List.getD x.1 (Int.toNat (wrZ (x.2.1 + y.1))) q40)) - q96), ()) () < μ y z) /\ (decide (y.1 <= u.2.1) = false -> ∃ (J : Int × Unit -> Unit -> Prop), ((decide
  (u.2.1 = q75) = true -> Value.bool false = Value.bool false /\ y.1 = y.1 /\ Value.bool false = Value.bool false /\ y.2.1 = y.2.1 /\ u.2.1 = u.2.1 /\ Value.bool false = Value.bool false /\
  Value.bool false = Value.bool false /\ wrZ (q92 x) = wrZ (q92 x) /\ q40 = q40 /\ x.1 = x.1 /\ x.2.1 = x.2.1 /\ J ((2048 : Int), ()) ()) /\ (decide (u.2.1 = q75) = false -> Value.bool false
  = Value.bool false /\ y.1 = y.1 /\ Value.bool false = Value.bool false /\ y.2.1 = y.2.1 /\ u.2.1 = u.2.1 /\ Value.bool false = Value.bool false /\ Value.bool false = Value.bool false /\ wrZ
  (q92 x) = wrZ (q92 x) /\ q40 = q40 /\ x.1 = x.1 /\ x.2.1 = x.2.1 /\ J (q96, ()) ())) /\ ∀ (u_1 : q1) (z : Unit), (q36 u_1) -> True -> J u_1 z -> ∃ (J : Int × Unit -> Unit -> Prop), ((decide
  (u.2.1 = (3 : Int)) = true -> Value.bool false = Value.bool false /\ y.1 = y.1 /\ Value.bool false = Value.bool false /\ y.2.1 = y.2.1 /\ u.2.1 = u.2.1 /\ Value.bool false = Value.bool
  false /\ Value.bool false = Value.bool false /\ wrZ (q92 x) = wrZ (q92 x) /\ q40 = q40 /\ x.1 = x.1 /\ x.2.1 = x.2.1 /\ J ((65536 : Int), ()) ()) /\ (decide (u.2.1 = (3 : Int)) = false ->
  Value.bool false = Value.bool false /\ y.1 = y.1 /\ Value.bool false = Value.bool false /\ y.2.1 = y.2.1 /\ u.2.1 = u.2.1 /\ Value.bool false = Value.bool false /\ Value.bool false =
  Value.bool false /\ wrZ (q92 x) = wrZ (q92 x) /\ q40 = q40 /\ x.1 = x.1 /\ x.2.1 = x.2.1 /\ J (u_1.1, ()) ())) /\ ∀ (u_2 : q1) (z : Unit), (q36 u_2) -> True -> J u_2 z -> (decide (y.2.1 <
  u_2.1) = false -> True) /\ (decide (y.2.1 < u_2.1) = false -> (decide (y.2.1 < u_2.1) == false) = true /\ True) /\ (decide (y.2.1 < u_2.1) = false -> (decide (y.2.1 < u_2.1) == false) =
  true) /\ ((q90 y u_2) = false -> True) /\ ((q90 y u_2) = false -> ((q90 y u_2) == false) = true /\ True) /\ ((q90 y u_2) = false -> True) /\ ((q88 y u_2) = true -> decide ((55296 : Int) <=
  y.2.1) = true -> True) /\ ((q88 y u_2) = true -> decide ((55296 : Int) <= y.2.1) = true -> (q86 y u_2) = true /\ True) /\ ((q90 y u_2) = false -> (q88 y u_2) = true /\ (decide ((55296 :
  Int) <= y.2.1) = true -> (q86 y u_2) = true) /\ True) /\ ((q90 y u_2) = false -> ((q90 y u_2) == false) = true) /\ ((q87 y u_2) = true -> q40 = (q93 x)) /\ ((q87 y u_2) = false -> wrZ
  (u.2.1 + q72) = (q93 x))))) /\ True))
theorem e200 : t200 = Con.vc c_r05_character GL (mkEnv ty [(205, conSem c_r05_more)] [] [] [0, 1, 4, 5, 6, 7, 8, 9, 15, 21, 25, 29, 37, 40, 54, 56, 71]) {joins := [9,11,20,22]} Tryz.f200.ntmps Tryz.f200.results.toList (bodyOf Tryz.f200) := by kernel_rfl
theorem k200 : t200 := by
  unfold t200
  delta q0 wsZ wiZ q84 q40 lnZ wrZ q92 q96 q72 q93 q91 q89 q10 q75 q6 q94 q4 q47 q11 q95 q1 q36 q90 q88 q86 q87 q379 wbZ q417 q431
  rintro ⟨l, p, _⟩ hx hp
  have hw : Kd.wf Kd.str l := hx.1
  obtain ⟨hl, hp0, hp1⟩ := hp
  simp only at hp0 hp1 hl
  try dsimp +instances only [dft_int, dft_sl, dft_str]
  simp only [true_and, and_true, eq_self_iff_true, implies_true, reduceCtorEq, false_implies, true_implies, decide_eq_true_eq, decide_eq_false_iff_not, beq_self_eq_true, Bool.not_eq_true', ne_eq, Decidable.not_not, List.nil_append, List.length_singleton, List.length_cons, List.length_nil, Nat.zero_add, Nat.add_zero, Nat.mul_one, and_self, beq_iff_eq, Bool.not_true, Bool.not_false, Bool.not_eq_false', Bool.cond_false_right, Bool.and_eq_true, imp_self, Bool.not_eq_true, Bool.cond_true_left, Bool.or_eq_true]
  obtain ⟨i, rfl⟩ : ∃ i : Nat, p = i := ⟨p.toNat, by omega⟩
  rw [Int.toNat_natCast]
  have hi : i < l.length := by omega
  have hc := str_get hw i
  have hwc : IntKind.wrap .i64 (l.getD i 0) = l.getD i 0 := wrapK _ (by omega) (by omega)
  have hw1 : IntKind.wrap .i64 ((i : Int) + 1) = i + 1 := wrapK _ (by omega) (by omega)
  have e1' : ((i : Int) + 1).toNat = i + 1 := by omega
  rw [hwc, hw1, e1', wrapK (l.getD i 0 - 224) (by omega) (by omega), wrapK (l.getD i 0 - 192) (by omega) (by omega), wrapK (l.getD i 0 - 240) (by omega) (by omega)]
  refine ⟨⟨by omega, by omega⟩, fun h => ?_, fun hge => ⟨fun h => ?_, fun h => ?_⟩⟩
  . obtain ⟨b0, e0, g0⟩ := nat_of l hw i
    obtain ⟨b1, e1, g1⟩ := nat_of l hw (i + 1)
    obtain ⟨b2, e2, g2⟩ := nat_of l hw (i + 2)
    obtain ⟨b3, e3, g3⟩ := nat_of l hw (i + 3)
    rw [chw_at l i e0 e1 e2 e3, dec_low (by omega)]; rfl
  . obtain ⟨b0, e0, g0⟩ := nat_of l hw i
    obtain ⟨b1, e1, g1⟩ := nat_of l hw (i + 1)
    obtain ⟨b2, e2, g2⟩ := nat_of l hw (i + 2)
    obtain ⟨b3, e3, g3⟩ := nat_of l hw (i + 3)
    rw [chw_at l i e0 e1 e2 e3, dec_bad (by omega)]; rfl
  have h0 : 192 ≤ l.getD i 0 ∧ l.getD i 0 ≤ 247 := by
    simp only [Bool.or_eq_false_iff, decide_eq_false_iff_not] at h
    omega
  refine ⟨fun u _ => u.2.1 = 1 ∧ l.getD i 0 < 224 ∧ u.1 = l.getD i 0 - 192 ∨ u.2.1 = 2 ∧ 224 ≤ l.getD i 0 ∧ u.1 = l.getD i 0 - 224, ⟨fun h => .inr ⟨rfl, h, rfl⟩, fun h => .inl ⟨rfl, by omega, rfl⟩⟩, ?_⟩
  rintro ⟨v, n, _⟩ _ _ hJ
  refine ⟨fun u _ => u.2.1 = 1 ∧ l.getD i 0 < 224 ∧ u.1 = l.getD i 0 - 192 ∨ u.2.1 = 2 ∧ 224 ≤ l.getD i 0 ∧ l.getD i 0 < 240 ∧ u.1 = l.getD i 0 - 224 ∨ u.2.1 = 3 ∧ 240 ≤ l.getD i 0 ∧ u.1 = l.getD i 0 - 240, ⟨fun h => .inr (.inr ⟨rfl, h, rfl⟩), fun h => ?_⟩, ?_⟩
  . simp only at hJ ⊢
    omega
  clear hJ
  rintro ⟨v, n, _⟩ _ _ hJ
  simp only at hJ ⊢
  refine ⟨⟨hl, by omega, by omega, by omega, by omega⟩, ?_⟩
  rintro ⟨m, _⟩ _ em
  simp only at em ⊢
  refine ⟨fun h => ?_, fun h => ?_⟩
  . rw [chw_mid hw hi h0 (by omega) (em.symm.trans h)]; rfl
  have hm := em.symm.trans h
  have hm2 := (more_iff l (i + 1) n.toNat).1 hm
  refine ⟨fun y _ => 1 ≤ y.1 ∧ y.1 ≤ n + 1 ∧ y.2.1 = valK v (l.getD (i + 1) 0) (l.getD (i + 2) 0) (l.getD (i + 3) 0) y.1, fun y _ => (n + 1 - y.1).toNat, ⟨by omega, by omega, rfl⟩, ?_⟩
  rintro ⟨k, a, _⟩ _ _ ⟨k1, k2, ek⟩
  simp only at k1 k2 ek ⊢
  refine ⟨fun hk => ?_, fun hk => ?_⟩
  . obtain ⟨m1, m2, m3⟩ := hm2 (k - 1).toNat (by omega)
    have ei : i + 1 + (k - 1).toNat = ((i : Int) + k).toNat := by omega
    rw [ei] at m1 m2 m3
    have hbd : ∀ j, 0 ≤ l.getD j 0 ∧ l.getD j 0 ≤ 255 := str_get hw
    have b1 := hbd (i + 1)
    have b2 := hbd (i + 2)
    have b3 := hbd (i + 3)
    have ha : -100000 ≤ a ∧ a ≤ 10000000 := by
      rw [ek]
      unfold valK
      split
      . omega
      . split
        . omega
        . split <;> omega
    have e1 : IntKind.wrap .i64 ((i : Int) + k) = i + k := wrapK _ (by omega) (by omega)
    have e2 : IntKind.wrap .i64 (k + 1) = k + 1 := wrapK _ (by omega) (by omega)
    have e3 : IntKind.wrap .i64 (64 * a) = 64 * a := wrapK _ (by omega) (by omega)
    have e4 : IntKind.wrap .i64 (l.getD ((i : Int) + k).toNat 0) = l.getD ((i : Int) + k).toNat 0 := wrapK _ (by omega) (by omega)
    rw [e1, e2, e3, e4, wrapK (64 * a + l.getD ((i : Int) + k).toNat 0) (by omega) (by omega), wrapK (64 * a + l.getD ((i : Int) + k).toNat 0 - 128) (by omega) (by omega)]
    refine ⟨⟨by omega, by omega⟩, ⟨by omega, by omega, ?_⟩, by omega⟩
    rcases (show k = 1 ∨ k = 2 ∨ k = 3 by omega) with rfl | rfl | rfl
    . rw [show ((i : Int) + 1).toNat = i + 1 by omega, ek]; rfl
    . rw [show ((i : Int) + 2).toNat = i + 2 by omega, ek]; rfl
    . rw [show ((i : Int) + 3).toNat = i + 3 by omega, ek]; rfl
  . obtain rfl : k = n + 1 := by omega
    refine ⟨fun u _ => n = 2 ∧ u.1 = 2048 ∨ n ≠ 2 ∧ u.1 = 128, ⟨fun h => .inl ⟨h, rfl⟩, fun h => .inr ⟨h, rfl⟩⟩, ?_⟩
    rintro ⟨b, _⟩ _ _ hJ1
    refine ⟨fun u _ => n = 1 ∧ u.1 = 128 ∨ n = 2 ∧ u.1 = 2048 ∨ n = 3 ∧ u.1 = 65536, ⟨fun h => .inr (.inr ⟨h, rfl⟩), fun h => by simp only at hJ1 ⊢; omega⟩, ?_⟩
    clear hJ1
    rintro ⟨b, _⟩ _ _ hJ1
    simp only at hJ1 ⊢
    have key := chw_end hw hi (n := n) (v0 := v) (least := b) h0 (by omega) hm
    rw [← ek] at key
    rw [key, wrapK (n + 1) (by omega) (by omega)]
    refine ⟨fun h1 h2 => ⟨h1, h2⟩, fun h1 => ⟨h1, fun h2 => ⟨h1, h2⟩⟩, fun h1 => ?_, fun h1 => ?_⟩
    . rw [if_pos (by omega)]
    . simp only [Bool.or_eq_false_iff, Bool.and_eq_false_iff, decide_eq_false_iff_not] at h1
      rw [if_neg (by omega)]
theorem h200 : c_r05_character.ok Tryz.prog GL 200 := con_ok (H := {joins := [9,11,20,22]}) (mkEnv_ok (gl := GL) (l := [(205, conSem c_r05_more)]) (q := []) (d := []) _ tyOk (by kernel_rfl) ⟨h205.call, trivial⟩ trivial trivial) (by kernel_rfl) (by kernel_rfl) (Eq.mp e200 k200)
def t191 : Prop :=
  ∀ (x : q5), (q68 x) -> List.length x.1 <= q84 -> ∃ (I : q10), ∃ (μ : q11), (x.1 = x.1 /\ I (q40, q40, ()) ()) /\ ∀ (y : q6) (z : Unit), (q94 y) -> True -> I y z -> (decide (y.1 < (lnZ x.1))
  = true -> (List.length x.1 <= q84 /\ q40 <= y.1 /\ y.1 < (lnZ x.1)) /\ (∀ (y_1 : q1), (q36 y_1) -> y_1.1 = (↑(chw x.1 (Int.toNat y.1)) : Int) -> (decide (q97 y_1) = true -> y.1 = (↑(vld x.1
  q71) : Int)) /\ (decide (q97 y_1) = false -> x.1 = x.1 /\ I (wrZ (y.1 + y_1.1), y.2.1, ()) () /\ μ (wrZ (y.1 + y_1.1), y.2.1, ()) () < μ y z)) /\ True) /\ (decide (y.1 < (lnZ x.1)) = false
  -> y.1 = (↑(vld x.1 q71) : Int))
theorem e191 : t191 = Con.vc c_r05_Valid GL (mkEnv ty [(200, conSem c_r05_character)] [] [] [0, 2, 3, 4, 8, 13]) {} Tryz.f191.ntmps Tryz.f191.results.toList (bodyOf Tryz.f191) := by kernel_rfl
theorem k191 : t191 := by
  unfold t191
  delta q5 q68 q84 q10 q11 q40 q6 q94 lnZ q1 q36 q97 q71 wrZ wsZ wiZ q379
  rintro ⟨l, _⟩ hx hp
  have hp : l.length ≤ 1000000000 := hp
  try dsimp +instances only [dft_int, dft_sl, dft_str]
  simp only [true_and, and_true, eq_self_iff_true, implies_true, reduceCtorEq, false_implies, true_implies, decide_eq_true_eq, decide_eq_false_iff_not, beq_self_eq_true, Bool.not_eq_true', ne_eq, Decidable.not_not, List.nil_append, List.length_singleton, List.length_cons, List.length_nil, Nat.zero_add, Nat.add_zero, Nat.mul_one, and_self, beq_iff_eq, Bool.not_true, Bool.not_false, Bool.not_eq_false', Bool.cond_false_right, Bool.and_eq_true, imp_self, Bool.not_eq_true, Bool.cond_true_left, Bool.or_eq_true]
  refine ⟨fun y _ => 0 ≤ y.1 ∧ y.1 ≤ l.length ∧ vld l 0 = vld l y.1.toNat, fun y _ => ((l.length : Int) - y.1).toNat, ⟨by omega, by omega, rfl⟩, ?_⟩
  rintro ⟨i, r, _⟩ z _ ⟨h0, h1, h2⟩
  simp only at h0 h1 h2 ⊢
  refine ⟨fun hlt => ⟨⟨hp, h0, hlt⟩, ?_⟩, fun hge => ?_⟩
  . rintro ⟨c, _⟩ _ ec
    simp only at ec ⊢
    have hil : i.toNat < l.length := by omega
    have hle := chw_le l i.toNat hil
    refine ⟨fun h => ?_, fun h => ?_⟩
    . rw [h2, vld_stop (fun hc => hc.2 (by omega))]
      omega
    . have hw : IntKind.wrap .i64 (i + c) = i + c := wrapK _ (by omega) (by omega)
      rw [hw]
      refine ⟨⟨by omega, by omega, ?_⟩, by omega⟩
      rw [h2, vld_step hil (by omega)]
      congr 1
      omega
  . rw [h2, vld_stop (fun hc => by omega)]
    omega
theorem h191 : c_r05_Valid.ok Tryz.prog GL 191 := con_ok (H := {}) (mkEnv_ok (gl := GL) (l := [(200, conSem c_r05_character)]) (q := []) (d := []) _ tyOk (by kernel_rfl) ⟨h200.call, trivial⟩ trivial trivial) (by kernel_rfl) (by kernel_rfl) (Eq.mp e191 k191)
def t207 : Prop :=
  ∀ (x : q1), (q103 x) -> True -> (decide ((97 : Int) <= x.1) = true -> True) /\ (q98 x) /\ (q100 x) /\ ((q382 x) = true -> true = printsD x.1) /\ ((q382 x) = false -> (decide (q481 <= x.1) =
  true -> True) /\ (decide (q481 <= x.1) = true -> (decide (q481 <= x.1) == true) = true /\ True) /\ (decide (q481 <= x.1) = true -> (decide (q481 <= x.1) == true) = true) /\ ((bif decide
  (q481 <= x.1) then decide (x.1 <= (90 : Int)) else false) = true -> true = printsD x.1) /\ ((bif decide (q481 <= x.1) then decide (x.1 <= (90 : Int)) else false) = false -> (decide (q383 <=
  x.1) = true -> True) /\ (q99 x) /\ (q101 x) /\ ((q102 x) = true -> true = printsD x.1) /\ ((q102 x) = false -> (decide (x.1 ≠ q40) = true -> True) /\ (decide (x.1 ≠ q40) = true -> (decide
  (x.1 ≠ q40) == true) = true /\ True /\ (∀ (y : q1), (q36 y) -> y.1 = idxB q381 x.1 -> decide (q39 y) = printsD x.1) /\ True) /\ (decide (x.1 ≠ q40) = !true -> false = printsD x.1))))
theorem e207 : t207 = Con.vc c_text_prints GL (mkEnv ty [(178, conSem c_strings_IndexByte)] [] [] [0, 2, 3]) {} Tryz.f207.ntmps Tryz.f207.results.toList (bodyOf Tryz.f207) := by kernel_rfl
theorem k207 : t207 := by
  unfold t207
  delta q1 q103 q98 q100 q382 q481 q383 q99 q101 q102 q40 q36 q381 q39 q488 wiZ q379
  rintro ⟨c, _⟩ hx hp
  have hc : 0 ≤ c ∧ c ≤ 255 := by
    have h : InR .u8 c := hx.1
    simpa [InR, IntKind.min, IntKind.max, IntKind.signed, IntKind.bits] using h
  try dsimp +instances only [dft_int, dft_sl, dft_str]
  simp only [true_and, and_true, eq_self_iff_true, implies_true, reduceCtorEq, false_implies, true_implies, decide_eq_true_eq, decide_eq_false_iff_not, beq_self_eq_true, Bool.not_eq_true', ne_eq, Decidable.not_not, List.nil_append, List.length_singleton, List.length_cons, List.length_nil, Nat.zero_add, Nat.add_zero, Nat.mul_one, and_self, beq_iff_eq, Bool.not_true, Bool.not_false, Bool.not_eq_false', Bool.cond_false_right, Bool.and_eq_true, imp_self, Bool.not_eq_true, Bool.cond_true_left, Bool.or_eq_true]
  have key : ∀ c : Fin 256, decide (0 ≤ idxB (bs { data := #[32, 39, 40, 41, 43, 44, 45, 46, 47, 58, 61, 63] }) (c.val : Int)) = true → printsD (c.val : Int) = true := by decide +kernel
  have key2 : ∀ c : Fin 256, ((decide (97 ≤ (c.val : Int)) && decide ((c.val : Int) ≤ 122)) = false) → ((decide (65 ≤ (c.val : Int)) && decide ((c.val : Int) ≤ 90)) = false) → ((decide (48 ≤ (c.val : Int)) && decide ((c.val : Int) ≤ 57)) = false) → decide (0 ≤ idxB (bs { data := #[32, 39, 40, 41, 43, 44, 45, 46, 47, 58, 61, 63] }) (c.val : Int)) = printsD (c.val : Int) := by decide +kernel
  have k2 := key2 ⟨c.toNat, by omega⟩
  simp only [Int.toNat_of_nonneg hc.1] at k2
  refine ⟨fun h => by simp [printsD, h], fun h1 => ⟨fun h => by simp [printsD, h], fun h2 => ⟨fun h => by simp [printsD, h], fun h3 => ⟨fun h => ⟨h, fun y _ ey => by rw [ey]; exact k2 h1 h2 h3⟩, fun h => by subst h; decide⟩⟩⟩⟩
theorem h207 : c_text_prints.ok Tryz.prog GL 207 := con_ok (H := {}) (mkEnv_ok (gl := GL) (l := [(178, conSem c_strings_IndexByte)]) (q := []) (d := []) _ tyOk (by kernel_rfl) ⟨h178.call, trivial⟩ trivial trivial) (by kernel_rfl) (by kernel_rfl) (Eq.mp e207 k207)
def t192 : Prop :=
  ∀ (x : q1), (q103 x) -> True -> (decide ((97 : Int) <= x.1) = true -> True) /\ (q98 x) /\ (q100 x) /\ (q116 x) /\ (q111 x) /\ (q116 x) /\ (q110 x) /\ (q105 x) /\ (q104 x) /\ (q113 x) /\
  (q112 x) /\ ((q115 x) = false -> (q114 x) = true /\ True) /\ (q112 x) /\ ((q107 x) = true -> decide (q383 <= x.1) = true -> True) /\ ((q107 x) = true -> decide (q383 <= x.1) = true -> (q106
  x) = true /\ True) /\ ((q115 x) = false -> (q107 x) = true /\ (decide (q383 <= x.1) = true -> (q106 x) = true) /\ True) /\ ((q115 x) = false -> (q114 x) = true) /\ ((q108 x) = true -> true
  = printsD x.1) /\ ((q108 x) = false -> ∃ (I : q7), ∃ (μ : q8), (bs { data := #[(32 : UInt8), (39 : UInt8), (40 : UInt8), (41 : UInt8), (43 : UInt8), (44 : UInt8), (45 : UInt8), (46 :
  UInt8), (47 : UInt8), (58 : UInt8), (61 : UInt8), (63 : UInt8)] } = bs { data := #[(32 : UInt8), (39 : UInt8), (40 : UInt8), (41 : UInt8), (43 : UInt8), (44 : UInt8), (45 : UInt8), (46 :
  UInt8), (47 : UInt8), (58 : UInt8), (61 : UInt8), (63 : UInt8)] } /\ Value.bool false = Value.bool false /\ x.1 = x.1 /\ I (q40, false, ()) ()) /\ ∀ (y : q9) (z : Unit), (q83 y) -> True ->
  I y z -> (decide (y.1 < (↑(12 : Nat) : Int)) = true -> (q40 <= y.1 /\ y.1 < (↑(12 : Nat) : Int)) /\ (decide (q109 y x) = true -> true = printsD x.1) /\ (decide (q109 y x) = false -> bs {
  data := #[(32 : UInt8), (39 : UInt8), (40 : UInt8), (41 : UInt8), (43 : UInt8), (44 : UInt8), (45 : UInt8), (46 : UInt8), (47 : UInt8), (58 : UInt8), (61 : UInt8), (63 : UInt8)] } = bs {
  data := #[(32 : UInt8), (39 : UInt8), (40 : UInt8), (41 : UInt8), (43 : UInt8), (44 : UInt8), (45 : UInt8), (46 : UInt8), (47 : UInt8), (58 : UInt8), (61 : UInt8), (63 : UInt8)] } /\
  Value.bool false = Value.bool false /\ x.1 = x.1 /\ I (wrZ (q85 y), y.2.1, ()) () /\ μ (wrZ (q85 y), y.2.1, ()) () < μ y z)) /\ (decide (y.1 < (↑(12 : Nat) : Int)) = false -> false =
  printsD x.1))
theorem e192 : t192 = Con.vc c_r05_Prints GL (mkEnv ty [] [] [] [0, 2, 3, 4, 26, 30, 37]) {} Tryz.f192.ntmps Tryz.f192.results.toList (bodyOf Tryz.f192) := by kernel_rfl
theorem k192 : t192 := by
  unfold t192
  delta q1 q103 q98 q100 q116 q111 q110 q105 q104 q113 q112 q115 q114 q107 q383 q106 q108 q7 q8 q40 q9 q83 q109 wrZ q85 q488 q382 q433 q481 q432 q434 wiZ wbZ q381 q384 q379 q417 q502
  rintro ⟨c, _⟩ hx hp
  try dsimp +instances only [dft_int, dft_sl, dft_str]
  simp only [true_and, and_true, eq_self_iff_true, implies_true, reduceCtorEq, false_implies, true_implies, decide_eq_true_eq, decide_eq_false_iff_not, beq_self_eq_true, Bool.not_eq_true', ne_eq, Decidable.not_not, List.nil_append, List.length_singleton, List.length_cons, List.length_nil, Nat.zero_add, Nat.add_zero, Nat.mul_one, and_self, beq_iff_eq, Bool.not_true, Bool.not_false, Bool.not_eq_false', Bool.cond_false_right, Bool.and_eq_true, imp_self, Bool.not_eq_true, Bool.cond_true_left, Bool.or_eq_true]
  have hT : bs { data := #[32, 39, 40, 41, 43, 44, 45, 46, 47, 58, 61, 63] } = ([32, 39, 40, 41, 43, 44, 45, 46, 47, 58, 61, 63] : List Int) := by decide
  rw [hT]
  refine ⟨fun h h2 => ⟨h, h2⟩, fun h => ⟨h, fun h2 => ⟨h, h2⟩⟩, fun h h2 => ⟨h, h2⟩, fun h => ⟨h, fun h2 => ⟨h, h2⟩⟩, fun h => ?_, fun h => ?_⟩
  . have : printsD c = true := by
      rw [printsD, decide_eq_true_eq]
      omega
    exact this.symm
  . have hn : ¬ (97 ≤ c ∧ c ≤ 122) ∧ ¬ (65 ≤ c ∧ c ≤ 90) ∧ ¬ (48 ≤ c ∧ c ≤ 57) := by
      simp only [Bool.or_eq_false_iff, Bool.and_eq_false_iff, decide_eq_false_iff_not] at h
      omega
    generalize hTT : ([32, 39, 40, 41, 43, 44, 45, 46, 47, 58, 61, 63] : List Int) = T
    have hTl : T.length = 12 := by rw [← hTT]; rfl
    refine ⟨fun y _ => 0 ≤ y.1 ∧ y.1 ≤ 12 ∧ ∀ j, j < y.1.toNat → T.getD j 0 ≠ c, fun y _ => (12 - y.1).toNat, ⟨by omega, by omega, fun j hj => by simp at hj⟩, ?_⟩
    rintro ⟨i, b, _⟩ z _ ⟨h0, h1, h2⟩
    simp only at h0 h1 h2 ⊢
    have hw : IntKind.wrap .i64 (i + 1) = i + 1 := wrapK _ (by omega) (by omega)
    rw [hw]
    refine ⟨fun hlt => ⟨⟨h0, hlt⟩, fun h3 => ?_, fun h3 => ⟨⟨by omega, by omega, fun j hj => ?_⟩, by omega⟩⟩, fun hge => ?_⟩
    . have hlt2 : i.toNat < T.length := by omega
      have hm : c ∈ T := by
        rw [List.getD_eq_getElem?_getD, List.getElem?_eq_getElem hlt2] at h3
        have h3 : T[i.toNat] = c := h3
        rw [← h3]; exact List.getElem_mem hlt2
      have : printsD c = true := by
        rw [printsD, decide_eq_true_eq, hTT]
        exact .inr (.inr (.inr hm))
      exact this.symm
    . by_cases hji : j < i.toNat
      . exact h2 j hji
      . rw [show j = i.toNat by omega]; exact h3
    . have : printsD c = false := by
        rw [printsD, decide_eq_false_iff_not, hTT]
        rintro (h | h | h | h)
        . exact hn.1 h
        . exact hn.2.1 h
        . exact hn.2.2 h
        . obtain ⟨j, hj, e⟩ := List.getElem_of_mem h
          refine h2 j (by omega) ?_
          rw [List.getD_eq_getElem?_getD, List.getElem?_eq_getElem hj]
          exact e
      exact this.symm
theorem h192 : c_r05_Prints.ok Tryz.prog GL 192 := con_ok (H := {}) (mkEnv_ok (gl := GL) (l := []) (q := []) (d := []) _ tyOk (by kernel_rfl) trivial trivial trivial) (by kernel_rfl) (by kernel_rfl) (Eq.mp e192 k192)
def t201 : Prop :=
  ∀ (x : q12), (wiZ x.1 /\ wsZ x.2.1 /\ True) -> True -> (decide (q117 x) = true -> false = mayD x.1 x.2.1) /\ (decide (q117 x) = false -> (decide (x.1 = q70) = true -> True /\ (∀ (y : q1),
  (q36 y) -> y.1 = (↑(vld x.2.1 q71) : Int) -> decide (y.1 = (lnZ x.2.1)) = mayD x.1 x.2.1) /\ True) /\ (decide (x.1 = q70) = false -> (decide (x.1 = q118) = true -> ∃ (I : q7), ∃ (μ : q8),
  ((lnZ x.2.1) = (lnZ x.2.1) /\ Value.bool true = Value.bool true /\ Value.bool false = Value.bool false /\ x.1 = x.1 /\ Value.bool false = Value.bool false /\ x.1 = x.1 /\ x.2.1 = x.2.1 /\ I
  (q40, false, ()) ()) /\ ∀ (y : q9) (z : Unit), (q83 y) -> True -> I y z -> (decide (y.1 < (lnZ x.2.1)) = true -> (q40 <= y.1 /\ y.1 < (lnZ x.2.1)) /\ True /\ (∀ (y_1 : q4), (q47 y_1) ->
  y_1.1 = printsD (List.getD x.2.1 (q384 y) q40) -> ((!y_1.1) = true -> false = mayD x.1 x.2.1) /\ ((!y_1.1) = false -> (lnZ x.2.1) = (lnZ x.2.1) /\ Value.bool true = Value.bool true /\
  Value.bool false = Value.bool false /\ x.1 = x.1 /\ Value.bool false = Value.bool false /\ x.1 = x.1 /\ x.2.1 = x.2.1 /\ I (wrZ (q85 y), y.2.1, ()) () /\ μ (wrZ (q85 y), y.2.1, ()) () < μ y
  z)) /\ True) /\ (decide (y.1 < (lnZ x.2.1)) = false -> true = mayD x.1 x.2.1)) /\ (decide (x.1 = q118) = false -> (decide (x.1 = (22 : Int)) = true -> ∃ (I : q7), ∃ (μ : q8), ((lnZ x.2.1) =
  (lnZ x.2.1) /\ Value.bool true = Value.bool true /\ Value.bool false = Value.bool false /\ Value.bool false = Value.bool false /\ x.1 = x.1 /\ Value.bool false = Value.bool false /\ x.1 =
  x.1 /\ x.2.1 = x.2.1 /\ I (q40, false, ()) ()) /\ ∀ (y : q9) (z : Unit), (q83 y) -> True -> I y z -> (decide (y.1 < (lnZ x.2.1)) = true -> (q40 <= y.1 /\ y.1 < (lnZ x.2.1)) /\ (decide (q96
  <= List.getD x.2.1 (q384 y) q40) = true -> false = mayD x.1 x.2.1) /\ (decide (q96 <= List.getD x.2.1 (q384 y) q40) = false -> (lnZ x.2.1) = (lnZ x.2.1) /\ Value.bool true = Value.bool true
  /\ Value.bool false = Value.bool false /\ Value.bool false = Value.bool false /\ x.1 = x.1 /\ Value.bool false = Value.bool false /\ x.1 = x.1 /\ x.2.1 = x.2.1 /\ I (wrZ (q85 y), y.2.1, ())
  () /\ μ (wrZ (q85 y), y.2.1, ()) () < μ y z)) /\ (decide (y.1 < (lnZ x.2.1)) = false -> true = mayD x.1 x.2.1)) /\ (decide (x.1 = (22 : Int)) = false -> false = mayD x.1 x.2.1))))
theorem e201 : t201 = Con.vc c_text_May GL (mkEnv ty [(206, conSem c_text_Valid), (207, conSem c_text_prints)] [] [] [0, 1, 4, 5, 6, 9, 10, 11, 18, 21, 22, 23, 29, 31, 34, 35, 36, 41]) {} Tryz.f201.ntmps Tryz.f201.results.toList (bodyOf Tryz.f201) := by kernel_rfl
theorem k201 : t201 := by
  unfold t201
  delta q12 wiZ wsZ q117 q70 q1 q36 q71 lnZ q118 q7 q8 q40 q9 q83 q4 q47 q384 wrZ q85 q96 wbZ q417
  rintro ⟨k, m, _⟩ hx hp
  try dsimp +instances only [dft_int, dft_sl, dft_str]
  simp only [true_and, and_true, eq_self_iff_true, implies_true, reduceCtorEq, false_implies, true_implies, decide_eq_true_eq, decide_eq_false_iff_not, beq_self_eq_true, Bool.not_eq_true', ne_eq, Decidable.not_not, List.nil_append, List.length_singleton, List.length_cons, List.length_nil, Nat.zero_add, Nat.add_zero, Nat.mul_one, and_self, beq_iff_eq, Bool.not_true, Bool.not_false, Bool.not_eq_false', Bool.cond_false_right, Bool.and_eq_true, imp_self, Bool.not_eq_true, Bool.cond_true_left, Bool.or_eq_true]
  refine ⟨fun h => by rw [mayD, if_pos (by omega)], fun hl => ⟨fun h => ?_, fun h12 => ⟨fun h19 => ?_, fun h19 => ⟨fun h22 => ?_, fun h22 => ?_⟩⟩⟩⟩
  . rintro ⟨a, _⟩ _ ea
    simp only at ea ⊢
    rw [mayD, if_neg (by omega), if_pos h, ea]
    exact decide_eq_decide.2 (by omega)
  . have hm : mayD k m = m.all printsD := by rw [mayD, if_neg (by omega), if_neg h12, if_pos h19]
    rw [hm]
    refine ⟨fun y _ => 0 ≤ y.1 ∧ y.1 ≤ m.length ∧ ∀ j, j < y.1.toNat → printsD (m.getD j 0) = true, fun y _ => ((m.length : Int) - y.1).toNat, ⟨by omega, by omega, fun j hj => by simp at hj⟩, ?_⟩
    rintro ⟨i, b, _⟩ z _ ⟨h0, h1, h2⟩
    simp only at h0 h1 h2 ⊢
    have hw : IntKind.wrap .i64 (i + 1) = i + 1 := wrapK _ (by omega) (by omega)
    rw [hw]
    refine ⟨fun hlt => ⟨⟨h0, hlt⟩, ?_⟩, fun hge => (all_get _ _ (fun j hj => h2 j (by omega))).symm⟩
    rintro ⟨a, _⟩ _ ea
    simp only at ea ⊢
    refine ⟨fun h => (all_not _ _ i.toNat (by omega) (by rw [← ea]; exact h)).symm, fun h => ⟨⟨by omega, by omega, fun j hj => ?_⟩, by omega⟩⟩
    by_cases hji : j < i.toNat
    . exact h2 j hji
    . rw [show j = i.toNat by omega, ← ea]; exact h
  . have hm : mayD k m = m.all (fun c => decide (c < 128)) := by rw [mayD, if_neg (by omega), if_neg h12, if_neg h19, if_pos h22]
    rw [hm]
    refine ⟨fun y _ => 0 ≤ y.1 ∧ y.1 ≤ m.length ∧ ∀ j, j < y.1.toNat → m.getD j 0 < 128, fun y _ => ((m.length : Int) - y.1).toNat, ⟨by omega, by omega, fun j hj => by simp at hj⟩, ?_⟩
    rintro ⟨i, b, _⟩ z _ ⟨h0, h1, h2⟩
    simp only at h0 h1 h2 ⊢
    have hw : IntKind.wrap .i64 (i + 1) = i + 1 := wrapK _ (by omega) (by omega)
    rw [hw]
    refine ⟨fun hlt => ⟨⟨h0, hlt⟩, fun h => (all_not _ _ i.toNat (by omega) (by simpa using h)).symm, fun h => ⟨⟨by omega, by omega, fun j hj => ?_⟩, by omega⟩⟩, fun hge => (all_get _ _ (fun j hj => by simpa using h2 j (by omega))).symm⟩
    by_cases hji : j < i.toNat
    . exact h2 j hji
    . rw [show j = i.toNat by omega]; omega
  . rw [mayD, if_neg (by omega), if_neg h12, if_neg h19, if_neg h22]
theorem h201 : c_text_May.ok Tryz.prog GL 201 := con_ok (H := {}) (mkEnv_ok (gl := GL) (l := [(206, conSem c_text_Valid), (207, conSem c_text_prints)]) (q := []) (d := []) _ tyOk (by kernel_rfl) ⟨h206.call, h207.call, trivial⟩ trivial trivial) (by kernel_rfl) (by kernel_rfl) (Eq.mp e201 k201)
def t184 : Prop :=
  ∀ (x : q12), (wiZ x.1 /\ wsZ x.2.1 /\ True) -> List.length x.2.1 <= q84 -> (decide (q117 x) = false -> True) /\ (decide (q117 x) = false -> (decide (q117 x) == false) = true /\ True) /\
  (decide (q117 x) = false -> True) /\ ((q122 x) = true -> decide (x.1 ≠ q70) = true -> True) /\ ((q122 x) = true -> decide (x.1 ≠ q70) = true -> (q121 x) = true /\ True) /\ (decide (q117 x)
  = false -> (q122 x) = true /\ (decide (x.1 ≠ q70) = true -> (q121 x) = true) /\ True) /\ (decide (q117 x) = false -> True) /\ ((q122 x) = true -> (q123 x) = true -> True) /\ ((q122 x) =
  true -> (q123 x) = true -> (q119 x) = true /\ True) /\ (decide (q117 x) = false -> (q122 x) = true /\ ((q123 x) = true -> (q119 x) = true) /\ True) /\ (decide (q117 x) = false -> (decide
  (q117 x) == false) = true) /\ ((q120 x) = true -> false = mayD x.1 x.2.1) /\ ((q120 x) = false -> (decide (x.1 = q70) = true -> List.length x.2.1 <= q84 /\ (∀ (y : q1), (q36 y) -> y.1 =
  (↑(vld x.2.1 q71) : Int) -> decide (y.1 = (lnZ x.2.1)) = mayD x.1 x.2.1) /\ True) /\ (decide (x.1 = q70) = false -> ∃ (I : q7), ∃ (μ : q8), (Value.bool false = Value.bool false /\
  Value.bool false = Value.bool false /\ x.1 = x.1 /\ x.2.1 = x.2.1 /\ I (q40, false, ()) ()) /\ ∀ (y : q9) (z : Unit), (q83 y) -> True -> I y z -> (decide (y.1 < (lnZ x.2.1)) = true ->
  (decide (x.1 = q118) = true -> True) /\ (decide (x.1 = q118) = true -> True) /\ (decide (x.1 = q118) = true -> (decide (x.1 = q118) == true) = true /\ (decide (x.1 = q118) == true) = true
  /\ (q40 <= y.1 /\ y.1 < (lnZ x.2.1)) /\ True) /\ (decide (x.1 = q118) = true -> (decide (x.1 = q118) == true) = true /\ True /\ (∀ (y_1 : q4), (q47 y_1) -> y_1.1 = printsD (List.getD x.2.1
  (q384 y) q40) -> ((!y_1.1) = false -> True) /\ ((!y_1.1) = false -> True) /\ ((!y_1.1) = false -> ((!y_1.1) == false) = true /\ ((!y_1.1) == false) = true /\ (q40 <= y.1 /\ y.1 < (lnZ
  x.2.1)) /\ True) /\ ((!y_1.1) = false -> ((!y_1.1) == false) = true /\ True) /\ ((!y_1.1) = false -> ((!y_1.1) == false) = true) /\ ((bif !y_1.1 then true else decide (q124 x y)) = true ->
  false = mayD x.1 x.2.1) /\ ((bif !y_1.1 then true else decide (q124 x y)) = false -> Value.bool false = Value.bool false /\ Value.bool false = Value.bool false /\ x.1 = x.1 /\ x.2.1 = x.2.1
  /\ I (wrZ (q85 y), y.2.1, ()) () /\ μ (wrZ (q85 y), y.2.1, ()) () < μ y z)) /\ True) /\ (decide (x.1 = q118) = !true -> (q40 <= y.1 /\ y.1 < (lnZ x.2.1)) /\ (decide (q124 x y) = true ->
  false = mayD x.1 x.2.1) /\ (decide (q124 x y) = false -> Value.bool false = Value.bool false /\ Value.bool false = Value.bool false /\ x.1 = x.1 /\ x.2.1 = x.2.1 /\ I (wrZ (q85 y), y.2.1,
  ()) () /\ μ (wrZ (q85 y), y.2.1, ()) () < μ y z))) /\ (decide (y.1 < (lnZ x.2.1)) = false -> true = mayD x.1 x.2.1)))
theorem e184 : t184 = Con.vc c_r05_May GL (mkEnv ty [(191, conSem c_r05_Valid), (192, conSem c_r05_Prints)] [] [] [0, 1, 4, 5, 20, 22, 31, 48]) {} Tryz.f184.ntmps Tryz.f184.results.toList (bodyOf Tryz.f184) := by kernel_rfl
theorem k184 : t184 := by
  unfold t184
  delta q12 wiZ wsZ q84 q117 q122 q70 q121 q123 q119 q120 q1 q36 q71 lnZ q7 q8 q40 q9 q83 q118 q4 q47 q384 q124 wrZ q85 q435 wbZ q379 q417
  rintro ⟨k, m, _⟩ hx hp
  have hp : m.length ≤ 1000000000 := hp
  try dsimp +instances only [dft_int, dft_sl, dft_str]
  simp only [true_and, and_true, eq_self_iff_true, implies_true, reduceCtorEq, false_implies, true_implies, decide_eq_true_eq, decide_eq_false_iff_not, beq_self_eq_true, Bool.not_eq_true', ne_eq, Decidable.not_not, List.nil_append, List.length_singleton, List.length_cons, List.length_nil, Nat.zero_add, Nat.add_zero, Nat.mul_one, and_self, beq_iff_eq, Bool.not_true, Bool.not_false, Bool.not_eq_false', Bool.cond_false_right, Bool.and_eq_true, imp_self, Bool.not_eq_true, Bool.cond_true_left, Bool.or_eq_true]
  refine ⟨fun h h2 => ⟨h, h2⟩, fun h => ⟨h, fun h2 => ⟨h, h2⟩⟩, fun h h2 => ⟨h, h2⟩, fun h => ⟨h, fun h2 => ⟨h, h2⟩⟩, fun h => ?_, fun h => ⟨fun h12 => ⟨hp, ?_⟩, fun h12 => ?_⟩⟩
  . symm
    unfold mayD
    by_cases h4 : 4096 < m.length
    . rw [if_pos h4]
    . rw [if_neg h4, if_neg (by omega), if_neg (by omega), if_neg (by omega)]
  . simp only [Bool.or_eq_false_iff, decide_eq_false_iff_not] at h
    rintro ⟨a, _⟩ _ ea
    simp only at ea ⊢
    rw [mayD, if_neg (by omega), if_pos h12, ea]
    exact decide_eq_decide.2 (by omega)
  . simp only [Bool.or_eq_false_iff, Bool.and_eq_false_iff, decide_eq_false_iff_not, Decidable.not_not] at h
    have hm : ∀ i : Int, 0 ≤ i → i ≤ m.length → True := fun _ _ _ => trivial
    by_cases h19 : k = 19
    . have hm : mayD k m = m.all printsD := by rw [mayD, if_neg (by omega), if_neg h12, if_pos h19]
      rw [hm]
      refine ⟨fun y _ => 0 ≤ y.1 ∧ y.1 ≤ m.length ∧ ∀ j, j < y.1.toNat → printsD (m.getD j 0) = true, fun y _ => ((m.length : Int) - y.1).toNat, ⟨by omega, by omega, fun j hj => by simp at hj⟩, ?_⟩
      rintro ⟨i, b, _⟩ z _ ⟨h0, h1, h2⟩
      simp only at h0 h1 h2 ⊢
      have hw : IntKind.wrap .i64 (i + 1) = i + 1 := wrapK _ (by omega) (by omega)
      rw [hw]
      refine ⟨fun hlt => ⟨fun e => ⟨e, e, h0, hlt⟩, fun e => ⟨e, ?_⟩, fun e => absurd h19 e⟩, fun hge => (all_get _ _ (fun j hj => h2 j (by omega))).symm⟩
      rintro ⟨a, _⟩ _ ea
      simp only at ea ⊢
      refine ⟨fun h => ⟨h, h, h0, hlt⟩, fun h => ?_, fun h => ⟨⟨by omega, by omega, fun j hj => ?_⟩, by omega⟩⟩
      . refine (all_not _ _ i.toNat (by omega) ?_).symm
        rcases h with h | h
        . rw [← ea]; exact h
        . cases hpr : printsD (m.getD i.toNat 0) with
          | false => rfl
          | true => have := prints_low hpr; omega
      . by_cases hji : j < i.toNat
        . exact h2 j hji
        . rw [show j = i.toNat by omega, ← ea]
          have := (Bool.or_eq_false_iff.1 h).1
          simpa using this
    . have h22 : k = 22 := by omega
      have hm : mayD k m = m.all (fun c => decide (c < 128)) := by rw [mayD, if_neg (by omega), if_neg h12, if_neg h19, if_pos h22]
      rw [hm]
      refine ⟨fun y _ => 0 ≤ y.1 ∧ y.1 ≤ m.length ∧ ∀ j, j < y.1.toNat → m.getD j 0 < 128, fun y _ => ((m.length : Int) - y.1).toNat, ⟨by omega, by omega, fun j hj => by simp at hj⟩, ?_⟩
      rintro ⟨i, b, _⟩ z _ ⟨h0, h1, h2⟩
      simp only at h0 h1 h2 ⊢
      have hw : IntKind.wrap .i64 (i + 1) = i + 1 := wrapK _ (by omega) (by omega)
      rw [hw]
      refine ⟨fun hlt => ⟨fun e => absurd e h19, fun e => absurd e h19, fun _ => ⟨⟨h0, hlt⟩, fun h => (all_not _ _ i.toNat (by omega) (by show decide (m.getD i.toNat 0 < 128) = false; rw [decide_eq_false_iff_not]; omega)).symm, fun h => ⟨⟨by omega, by omega, fun j hj => ?_⟩, by omega⟩⟩⟩, fun hge => (all_get _ _ (fun j hj => by simpa using h2 j (by omega))).symm⟩
      by_cases hji : j < i.toNat
      . exact h2 j hji
      . rw [show j = i.toNat by omega]; omega
theorem h184 : c_r05_May.ok Tryz.prog GL 184 := con_ok (H := {}) (mkEnv_ok (gl := GL) (l := [(191, conSem c_r05_Valid), (192, conSem c_r05_Prints)]) (q := []) (d := []) _ tyOk (by kernel_rfl) ⟨h191.call, h192.call, trivial⟩ trivial trivial) (by kernel_rfl) (by kernel_rfl) (Eq.mp e184 k184)
def t194 : Prop :=
  ∀ (x : q5), (q68 x) -> True -> True /\ (∀ (y : q4), (q47 y) -> y.1 = mayD q118 x.1 -> (y.1 = true -> q118 = (kindD x.1).1 /\ q40 = (kindD x.1).2) /\ (y.1 = false -> True /\ (∀ (y : q4),
  (q47 y) -> y.1 = mayD q70 x.1 -> (y.1 = true -> q70 = (kindD x.1).1 /\ q40 = (kindD x.1).2) /\ (y.1 = false -> q40 = (kindD x.1).1 /\ (50 : Int) = (kindD x.1).2)) /\ True)) /\ True
theorem e194 : t194 = Con.vc c_text_Kind GL (mkEnv ty [(201, conSem c_text_May)] [] [] [0, 2, 3, 4, 7]) {} Tryz.f194.ntmps Tryz.f194.results.toList (bodyOf Tryz.f194) := by kernel_rfl
theorem k194 : t194 := by
  unfold t194
  delta q5 q68 q4 q47 q118 q40 q70 wsZ wbZ
  rintro ⟨l, _⟩ hx hp
  try dsimp +instances only [dft_int, dft_sl, dft_str]
  simp only [true_and, and_true, eq_self_iff_true, implies_true, reduceCtorEq, false_implies, true_implies, decide_eq_true_eq, decide_eq_false_iff_not, beq_self_eq_true, Bool.not_eq_true', ne_eq, Decidable.not_not, List.nil_append, List.length_singleton, List.length_cons, List.length_nil, Nat.zero_add, Nat.add_zero, Nat.mul_one, and_self, beq_iff_eq, Bool.not_true, Bool.not_false, Bool.not_eq_false', Bool.cond_false_right, Bool.and_eq_true, imp_self, Bool.not_eq_true, Bool.cond_true_left, Bool.or_eq_true]
  rintro ⟨a, _⟩ _ ea
  simp only at ea ⊢
  refine ⟨fun h => by rw [kindD, if_pos (by rw [← ea]; exact h)]; exact ⟨rfl, rfl⟩, fun h => ?_⟩
  rintro ⟨b, _⟩ _ eb
  simp only at eb ⊢
  refine ⟨fun h2 => ?_, fun h2 => ?_⟩
  . rw [kindD, if_neg (by rw [← ea, h]; decide), if_pos (by rw [← eb]; exact h2)]; exact ⟨rfl, rfl⟩
  . rw [kindD, if_neg (by rw [← ea, h]; decide), if_neg (by rw [← eb, h2]; decide)]; exact ⟨rfl, rfl⟩
theorem h194 : c_text_Kind.ok Tryz.prog GL 194 := con_ok (H := {}) (mkEnv_ok (gl := GL) (l := [(201, conSem c_text_May)]) (q := []) (d := []) _ tyOk (by kernel_rfl) ⟨h201.call, trivial⟩ trivial trivial) (by kernel_rfl) (by kernel_rfl) (Eq.mp e194 k194)
def t170 : Prop :=
  ∀ (x : q5), (q68 x) -> List.length x.1 <= q84 -> List.length x.1 <= q84 /\ (∀ (y : q4), (q47 y) -> y.1 = mayD q118 x.1 -> (y.1 = true -> q118 = (kindD x.1).1 /\ q40 = (kindD x.1).2) /\ (y.1
  = false -> List.length x.1 <= q84 /\ (∀ (y : q4), (q47 y) -> y.1 = mayD q70 x.1 -> (y.1 = true -> q70 = (kindD x.1).1 /\ q40 = (kindD x.1).2) /\ (y.1 = false -> q40 = (kindD x.1).1 /\ (50 :
  Int) = (kindD x.1).2)) /\ True)) /\ True
theorem e170 : t170 = Con.vc c_r05_Kind GL (mkEnv ty [(184, conSem c_r05_May)] [] [] [0, 2, 3, 5, 7]) {} Tryz.f170.ntmps Tryz.f170.results.toList (bodyOf Tryz.f170) := by kernel_rfl
theorem k170 : t170 := by
  unfold t170
  delta q5 q68 q84 q4 q47 q118 q40 q70 wsZ wbZ
  rintro ⟨l, _⟩ hx hp
  try dsimp +instances only [dft_int, dft_sl, dft_str]
  simp only [true_and, and_true, eq_self_iff_true, implies_true, reduceCtorEq, false_implies, true_implies, decide_eq_true_eq, decide_eq_false_iff_not, beq_self_eq_true, Bool.not_eq_true', ne_eq, Decidable.not_not, List.nil_append, List.length_singleton, List.length_cons, List.length_nil, Nat.zero_add, Nat.add_zero, Nat.mul_one, and_self, beq_iff_eq, Bool.not_true, Bool.not_false, Bool.not_eq_false', Bool.cond_false_right, Bool.and_eq_true, imp_self, Bool.not_eq_true, Bool.cond_true_left, Bool.or_eq_true]
  refine ⟨hp, ?_⟩
  rintro ⟨a, _⟩ _ ea
  simp only at ea ⊢
  refine ⟨fun h => by rw [kindD, if_pos (by rw [← ea]; exact h)]; exact ⟨rfl, rfl⟩, fun h => ⟨hp, ?_⟩⟩
  rintro ⟨b, _⟩ _ eb
  simp only at eb ⊢
  refine ⟨fun h2 => ?_, fun h2 => ?_⟩
  . rw [kindD, if_neg (by rw [← ea, h]; decide), if_pos (by rw [← eb]; exact h2)]; exact ⟨rfl, rfl⟩
  . rw [kindD, if_neg (by rw [← ea, h]; decide), if_neg (by rw [← eb, h2]; decide)]; exact ⟨rfl, rfl⟩
theorem h170 : c_r05_Kind.ok Tryz.prog GL 170 := con_ok (H := {}) (mkEnv_ok (gl := GL) (l := [(184, conSem c_r05_May)]) (q := []) (d := []) _ tyOk (by kernel_rfl) ⟨h184.call, trivial⟩ trivial trivial) (by kernel_rfl) (by kernel_rfl) (Eq.mp e170 k170)
end Go.Proofs.YtiofbnlbfmbodaaGreatDoor
end
