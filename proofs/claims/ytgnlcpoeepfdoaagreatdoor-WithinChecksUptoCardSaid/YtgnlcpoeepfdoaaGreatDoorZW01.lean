/- Texts of a verified walk, led together: Gl12A, Gl12W, StrsA, StrsW, TextA, TextW. -/
import Derived.Test.YtgnlcpoeepfdoaaGreatDoorZV05
import Derived.Test.YtgnlcpoeepfdoaaGreatDoorZTy
import Derived.Test.YtgnlcpoeepfdoaaGreatDoorZV06
import Derived.Test.YtgnlcpoeepfdoaaGreatDoorZShelf
set_option linter.unusedVariables false
set_option linter.unusedSimpArgs false
section
namespace Go.Proofs.YtgnlcpoeepfdoaaGreatDoor
open Go Go.Vc Go.Pl Go.Proofs
def GL : Gl := [(1, .arr U8 Lib.firstTab), (2, .arr (.pair U8 U8) accTab), (0, .num .i64)]
end Go.Proofs.YtgnlcpoeepfdoaaGreatDoor
end
section
namespace Go.Proofs.YtgnlcpoeepfdoaaGreatDoor
open Go Go.Vc Go.Pl Go.Proofs
end Go.Proofs.YtgnlcpoeepfdoaaGreatDoor
end
section
namespace Go.Proofs.YtgnlcpoeepfdoaaGreatDoor
open Go Go.Vc Go.Pl Go.Proofs
def c_bytealg_IndexByteString : Con := { args := [Kd.str, U8].map .dat, res := [.dat I64], pre := fun _ => True, post := fun x y => y.1 = idxB x.1 x.2.1 }
def c_stringslite_IndexByte : Con := { args := [.dat .str, .dat U8], res := [.dat I64], pre := fun _ => True, post := fun x y => y.1 = idxB x.1 x.2.1 }
def c_strings_IndexByte : Con := { args := [.dat .str, .dat U8], res := [.dat I64], pre := fun _ => True, post := fun x y => y.1 = idxB x.1 x.2.1 }
def c_stringslite_Index : Con := { args := [Kd.str, Kd.str].map .dat, res := [I64].map .dat, pre := fun x => x.1.length < 4294967281, post := fun x y => y.1 = idxS x.1 x.2.1 }
def c_strings_Index : Con := { args := [.dat .str, .dat .str], res := [.dat I64], pre := fun x => x.1.length < 4294967281, post := fun x y => y.1 = idxS x.1 x.2.1 }
def c_strings_Contains : Con := { args := [.dat .str, .dat .str], res := [.dat .bool], pre := fun x => x.1.length < 4294967281, post := fun x y => y.1 = decide (0 ≤ idxS x.1 x.2.1) }
def c_stringslite_Cut : Con := { args := [.dat .str, .dat .str], res := [.dat .str, .dat .str, .dat .bool], pre := fun x => x.1.length < 4294967281 ∧ x.2.1.length = 1, post := fun x y => y.1 = (cutD (x.2.1.getD 0 0) x.1).1 ∧ y.2.1 = (cutD (x.2.1.getD 0 0) x.1).2.1 ∧ y.2.2.1 = (cutD (x.2.1.getD 0 0) x.1).2.2 }
def c_strings_Cut : Con := { args := [.dat .str, .dat .str], res := [.dat .str, .dat .str, .dat .bool], pre := fun x => x.1.length < 4294967281 ∧ x.2.1.length = 1, post := fun x y => y.1 = (cutD (x.2.1.getD 0 0) x.1).1 ∧ y.2.1 = (cutD (x.2.1.getD 0 0) x.1).2.1 ∧ y.2.2.1 = (cutD (x.2.1.getD 0 0) x.1).2.2 }
def c_stringslite_HasPrefix : Con := { args := [.dat .str, .dat .str], res := [.dat .bool], pre := fun _ => True, post := fun x y => y.1 = hasP x.2.1 x.1 }
def c_stringslite_CutPrefix : Con := { args := [.dat .str, .dat .str], res := [.dat .str, .dat .bool], pre := fun _ => True, post := fun x y => y.1 = (if hasP x.2.1 x.1 then x.1.drop x.2.1.length else x.1) ∧ y.2.1 = hasP x.2.1 x.1 }
def c_strings_CutPrefix : Con := { args := [.dat .str, .dat .str], res := [.dat .str, .dat .bool], pre := fun _ => True, post := fun x y => y.1 = (if hasP x.2.1 x.1 then x.1.drop x.2.1.length else x.1) ∧ y.2.1 = hasP x.2.1 x.1 }
end Go.Proofs.YtgnlcpoeepfdoaaGreatDoor
end
section
namespace Go.Proofs.YtgnlcpoeepfdoaaGreatDoor
open Go Go.Vc Go.Pl Go.Proofs
set_option linter.unusedVariables false
set_option linter.unusedSimpArgs false
abbrev wrZ (x : Int) : Int := IntKind.wrap IntKind.i64 x
abbrev wiZ (x : Int) : Prop := Kd.wf (Kd.int IntKind.i64) x
abbrev wsZ (x : List Int) : Prop := Kd.wf Kd.str x
abbrev wbZ (x : Bool) : Prop := Kd.wf Kd.bool x
abbrev lnZ {α : Type} (x : List α) : Int := (↑(List.length x) : Int)
abbrev q0 := (List Int × Int × Unit)
abbrev q1 := (Int × Unit)
abbrev q2 := (List Int × List Int × Unit)
abbrev q3 := (List Int × List Int × Bool × Unit)
abbrev q4 := (Bool × Unit)
abbrev q5 := (List Int × Bool × Unit)
abbrev q52 (p0 : q1) := (wiZ p0.1 /\ True)
abbrev q53 (p0 : q2) := (wsZ p0.1 /\ wsZ p0.2.1 /\ True)
abbrev q54 := (4294967281 : Nat)
abbrev q452 := (0 : Int)
abbrev q55 (p0 : q1) := (q452 <= p0.1)
abbrev q56 := (0 : Int)
abbrev q477 := (0 : Nat)
abbrev q57 (p0 : q2) := (cutD (List.getD p0.2.1 q477 q452) p0.1)
abbrev q58 (p0 : q1) := (Int.toNat p0.1)
abbrev q59 := (1 : Nat)
abbrev q60 (p0 : q3) := (wsZ p0.1 /\ wsZ p0.2.1 /\ wbZ p0.2.2.1 /\ True)
abbrev q496 (p0 : q2) := (decide ((lnZ p0.2.1) <= (lnZ p0.1)) == true)
abbrev q61 (p0 : q2) := (decide ((lnZ p0.2.1) <= (lnZ p0.1)) = true -> (q496 p0) = true /\ (q496 p0) = true /\ (q452 <= (lnZ p0.2.1) /\ (lnZ p0.2.1) <= (lnZ p0.1)) /\ True)
abbrev q62 (p0 : q2) := (decide ((lnZ p0.2.1) <= (lnZ p0.1)) = true -> (q496 p0) = true /\ (q496 p0) = true /\ True)
abbrev q63 (p0 : q2) := (decide ((lnZ p0.2.1) <= (lnZ p0.1)) = true -> (q496 p0) = true /\ True)
abbrev q64 (p0 : q2) := (decide ((lnZ p0.2.1) <= (lnZ p0.1)) = true -> True)
abbrev q65 (p0 : q2) := (decide ((lnZ p0.2.1) <= (lnZ p0.1)) == true)
abbrev q66 (p0 : q2) := ((lnZ p0.2.1) <= (lnZ p0.1))
abbrev q67 (p0 : q4) := (wbZ p0.1 /\ True)
abbrev q553 := (Kd.int IntKind.u8)
theorem h123 : CallOk Tryz.prog GL 123 (conSem c_bytealg_IndexByteString) := by
  refine ext_ok (ks := [Kd.str, U8]) (k := I64) rfl ?_
  rintro w F ⟨l, c, u⟩ vs h _
  obtain ⟨v1, r1, rfl, h1, v2, r2, rfl, h2, rfl⟩ := h
  obtain ⟨s, rfl, rfl, hs⟩ := VRep_str.1 h1
  obtain ⟨rfl, hc⟩ := VRep_int.1 h2
  have hc2 : 0 ≤ c ∧ c ≤ 255 := inr_u8.1 hc
  refine ⟨_, (Lib.indexByte s.data.toList c.toNat.toUInt8 : Int), ?_, idxB_lib _ _ hc2, VRep_int.2 ⟨rfl, ?_⟩⟩
  . rw [run_callFunc_extern Tryz.func123 (by kernel_rfl) (by kernel_rfl) (by kernel_rfl) (e := Extern.BytealgIndexByte.indexByte) (by kernel_rfl)]
    show ((Extern.BytealgIndexByte.indexByte #[.string s, .int .u8 c]).run Tryz.prog w).andThen _ = _
    rw [Lib.run_indexByteString]
    rfl
  . rw [idxB_lib _ _ hc2]
    have h1 := idxB_ge (bs s) c
    have h3 : s.size ≤ 9223372036854775807 := hs
    rw [bs_length] at h1
    show InR .i64 (idxB (bs s) c)
    generalize idxB (bs s) c = r at h1 ⊢
    simp [InR, IntKind.min, IntKind.max, IntKind.signed, IntKind.bits]
    omega
def t104 : Prop :=
  ∀ (x : q0), (wsZ x.1 /\ Kd.wf q553 x.2.1 /\ True) -> True -> True /\ (∀ (y : q1), (q52 y) -> y.1 = idxB x.1 x.2.1 -> y.1 = idxB x.1 x.2.1) /\ True
theorem e104 : t104 = Con.vc c_stringslite_IndexByte GL (mkEnv ty [(123, conSem c_bytealg_IndexByteString)] [] [] [0, 1, 4]) {} Tryz.f104.ntmps Tryz.f104.results.toList (bodyOf Tryz.f104) := by kernel_rfl
theorem k104 : t104 := by
  unfold t104
  delta q0 wsZ q553 q1 q52 wiZ
  rintro ⟨l, c, _⟩ hx _
  try dsimp +instances only [dft_int, dft_sl, dft_str]
  simp only [true_and, and_true, eq_self_iff_true, implies_true, reduceCtorEq, false_implies, true_implies, decide_eq_true_eq, decide_eq_false_iff_not, beq_self_eq_true, Bool.not_eq_true', ne_eq, Decidable.not_not, List.nil_append, List.length_singleton, List.length_cons, List.length_nil, Nat.zero_add, Nat.add_zero, Nat.mul_one, and_self, beq_iff_eq, Bool.not_true, Bool.not_false, Bool.not_eq_false', Bool.cond_false_right, Bool.and_eq_true, imp_self, Bool.not_eq_true, Bool.cond_true_left, Bool.or_eq_true]
theorem h104 : c_stringslite_IndexByte.ok Tryz.prog GL 104 := con_ok (H := {}) (mkEnv_ok (gl := GL) (l := [(123, conSem c_bytealg_IndexByteString)]) (q := []) (d := []) _ tyOk (by kernel_rfl) ⟨h123, trivial⟩ trivial trivial) (by kernel_rfl) (by kernel_rfl) (Eq.mp e104 k104)
def t88 : Prop :=
  ∀ (x : q0), (wsZ x.1 /\ Kd.wf q553 x.2.1 /\ True) -> True -> True /\ (∀ (y : q1), (q52 y) -> y.1 = idxB x.1 x.2.1 -> y.1 = idxB x.1 x.2.1) /\ True
theorem e88 : t88 = Con.vc c_strings_IndexByte GL (mkEnv ty [(104, conSem c_stringslite_IndexByte)] [] [] [0, 1, 4]) {} Tryz.f88.ntmps Tryz.f88.results.toList (bodyOf Tryz.f88) := by kernel_rfl
theorem k88 : t88 := by
  unfold t88
  delta q0 wsZ q553 q1 q52 wiZ
  rintro ⟨l, c, _⟩ hx _
  try dsimp +instances only [dft_int, dft_sl, dft_str]
  simp only [true_and, and_true, eq_self_iff_true, implies_true, reduceCtorEq, false_implies, true_implies, decide_eq_true_eq, decide_eq_false_iff_not, beq_self_eq_true, Bool.not_eq_true', ne_eq, Decidable.not_not, List.nil_append, List.length_singleton, List.length_cons, List.length_nil, Nat.zero_add, Nat.add_zero, Nat.mul_one, and_self, beq_iff_eq, Bool.not_true, Bool.not_false, Bool.not_eq_false', Bool.cond_false_right, Bool.and_eq_true, imp_self, Bool.not_eq_true, Bool.cond_true_left, Bool.or_eq_true]
theorem h88 : c_strings_IndexByte.ok Tryz.prog GL 88 := con_ok (H := {}) (mkEnv_ok (gl := GL) (l := [(104, conSem c_stringslite_IndexByte)]) (q := []) (d := []) _ tyOk (by kernel_rfl) ⟨h104.call, trivial⟩ trivial trivial) (by kernel_rfl) (by kernel_rfl) (Eq.mp e88 k88)
theorem h99 : c_stringslite_Index.ok Tryz.prog GL 99 := by
  refine lib_ok (ks := [Kd.str, Kd.str]) (rs := [I64]) Tryz.func99 (by kernel_rfl) (by decide) ?_
  rintro w F ⟨l, m, u⟩ vs h hg hp
  obtain ⟨v1, r1, rfl, h1, v2, r2, rfl, h2, rfl⟩ := h
  obtain ⟨s, rfl, rfl, hs⟩ := VRep_str.1 h1
  obtain ⟨t, rfl, rfl, ht⟩ := VRep_str.1 h2
  obtain ⟨_, _, k, hk⟩ := hg 0 (.num .i64) rfl
  have hp : (bs s).length < 4294967281 := hp
  rw [bs_length] at hp
  refine Calls.mono (Tryz.stringslite_Index s t k w hp hk) ?_
  rintro e w' ⟨rfl, rfl⟩
  have hb : ∀ s : ByteArray, Bys (bs s) := bs_range
  have e1 : Lib.index s.data.toList t.data.toList = idxS (bs s) (bs t) := by
    rw [← u8s_bs s, ← u8s_bs t, idxS_lib _ _ (hb s) (hb t)]
  rw [e1]
  have h1 := idxS_ge (bs s) (bs t)
  rw [bs_length] at h1
  refine ⟨Kept.refl _ _, [_], (idxS (bs s) (bs t), ()), rfl, rfl, _, [], rfl, VRep_int.2 ⟨rfl, ?_⟩, rfl⟩
  generalize idxS (bs s) (bs t) = r at h1 ⊢
  simp [InR, IntKind.min, IntKind.max, IntKind.signed, IntKind.bits]
  omega
def t71 : Prop :=
  ∀ (x : q2), (q53 x) -> List.length x.1 < q54 -> List.length x.1 < q54 /\ (∀ (y : q1), (q52 y) -> y.1 = idxS x.1 x.2.1 -> y.1 = idxS x.1 x.2.1) /\ True
theorem e71 : t71 = Con.vc c_strings_Index GL (mkEnv ty [(99, conSem c_stringslite_Index)] [] [] [0, 1, 4]) {} Tryz.f71.ntmps Tryz.f71.results.toList (bodyOf Tryz.f71) := by kernel_rfl
theorem k71 : t71 := by
  unfold t71
  delta q2 q53 q54 q1 q52 wsZ wiZ
  rintro ⟨l, c, _⟩ hx hp
  try dsimp +instances only [dft_int, dft_sl, dft_str]
  simp only [true_and, and_true, eq_self_iff_true, implies_true, reduceCtorEq, false_implies, true_implies, decide_eq_true_eq, decide_eq_false_iff_not, beq_self_eq_true, Bool.not_eq_true', ne_eq, Decidable.not_not, List.nil_append, List.length_singleton, List.length_cons, List.length_nil, Nat.zero_add, Nat.add_zero, Nat.mul_one, and_self, beq_iff_eq, Bool.not_true, Bool.not_false, Bool.not_eq_false', Bool.cond_false_right, Bool.and_eq_true, imp_self, Bool.not_eq_true, Bool.cond_true_left, Bool.or_eq_true]
  exact hp
theorem h71 : c_strings_Index.ok Tryz.prog GL 71 := con_ok (H := {}) (mkEnv_ok (gl := GL) (l := [(99, conSem c_stringslite_Index)]) (q := []) (d := []) _ tyOk (by kernel_rfl) ⟨h99.call, trivial⟩ trivial trivial) (by kernel_rfl) (by kernel_rfl) (Eq.mp e71 k71)
def t43 : Prop :=
  ∀ (x : q2), (q53 x) -> List.length x.1 < q54 -> List.length x.1 < q54 /\ (∀ (y : q1), (q52 y) -> y.1 = idxS x.1 x.2.1 -> decide (q55 y) = decide (q56 <= idxS x.1 x.2.1)) /\ True
theorem e43 : t43 = Con.vc c_strings_Contains GL (mkEnv ty [(71, conSem c_strings_Index)] [] [] [0, 1, 4]) {} Tryz.f43.ntmps Tryz.f43.results.toList (bodyOf Tryz.f43) := by kernel_rfl
theorem k43 : t43 := by
  unfold t43
  delta q2 q53 q54 q1 q52 q55 q56 wsZ wiZ q452
  rintro ⟨l, c, _⟩ hx hp
  try dsimp +instances only [dft_int, dft_sl, dft_str]
  simp only [true_and, and_true, eq_self_iff_true, implies_true, reduceCtorEq, false_implies, true_implies, decide_eq_true_eq, decide_eq_false_iff_not, beq_self_eq_true, Bool.not_eq_true', ne_eq, Decidable.not_not, List.nil_append, List.length_singleton, List.length_cons, List.length_nil, Nat.zero_add, Nat.add_zero, Nat.mul_one, and_self, beq_iff_eq, Bool.not_true, Bool.not_false, Bool.not_eq_false', Bool.cond_false_right, Bool.and_eq_true, imp_self, Bool.not_eq_true, Bool.cond_true_left, Bool.or_eq_true]
  refine ⟨hp, ?_⟩
  rintro ⟨a, _⟩ _ ea
  exact congrArg (fun a : Int => decide (0 ≤ a)) ea
theorem h43 : c_strings_Contains.ok Tryz.prog GL 43 := con_ok (H := {}) (mkEnv_ok (gl := GL) (l := [(71, conSem c_strings_Index)]) (q := []) (d := []) _ tyOk (by kernel_rfl) ⟨h71.call, trivial⟩ trivial trivial) (by kernel_rfl) (by kernel_rfl) (Eq.mp e43 k43)
def t75 : Prop :=
  ∀ (x : q2), (q53 x) -> List.length x.1 < q54 /\ List.length x.2.1 = q59 -> List.length x.1 < q54 /\ (∀ (y : q1), (q52 y) -> y.1 = idxS x.1 x.2.1 -> (decide (q55 y) = true -> (q56 <= y.1 /\
  y.1 <= (lnZ x.1)) /\ (q56 <= wrZ (y.1 + (lnZ x.2.1)) /\ wrZ (y.1 + (lnZ x.2.1)) <= (lnZ x.1)) /\ List.take (q58 y) x.1 = (q57 x).1 /\ List.drop (Int.toNat (wrZ (y.1 + (lnZ x.2.1)))) x.1 =
  (q57 x).2.1 /\ true = (q57 x).2.2) /\ (decide (q55 y) = false -> x.1 = (q57 x).1 /\ bs { data := #[] } = (q57 x).2.1 /\ false = (q57 x).2.2)) /\ True
theorem e75 : t75 = Con.vc c_stringslite_Cut GL (mkEnv ty [(99, conSem c_stringslite_Index)] [] [] [0, 1, 4, 5, 6, 7, 12]) {} Tryz.f75.ntmps Tryz.f75.results.toList (bodyOf Tryz.f75) := by kernel_rfl
theorem k75 : t75 := by
  unfold t75
  delta q2 q53 q54 q59 q1 q52 q55 q56 lnZ wrZ q58 q57 wsZ wiZ q452 q477
  rintro ⟨l, c, _⟩ hx hp
  have h1 : l.length < 4294967281 := hp.1
  have h2 : c.length = 1 := hp.2
  try dsimp +instances only [dft_int, dft_sl, dft_str]
  simp only [true_and, and_true, eq_self_iff_true, implies_true, reduceCtorEq, false_implies, true_implies, decide_eq_true_eq, decide_eq_false_iff_not, beq_self_eq_true, Bool.not_eq_true', ne_eq, Decidable.not_not, List.nil_append, List.length_singleton, List.length_cons, List.length_nil, Nat.zero_add, Nat.add_zero, Nat.mul_one, and_self, beq_iff_eq, Bool.not_true, Bool.not_false, Bool.not_eq_false', Bool.cond_false_right, Bool.and_eq_true, imp_self, Bool.not_eq_true, Bool.cond_true_left, Bool.or_eq_true]
  refine ⟨h1, ?_⟩
  rintro ⟨a, _⟩ _ ea
  simp only at ea ⊢
  obtain ⟨d, rfl⟩ : ∃ d, c = [d] := List.length_eq_one_iff.1 h2
  rw [idxS_one] at ea
  have hb := idxB_ge l d
  have hd : ([d] : List Int).getD 0 0 = d := rfl
  rw [hd, cutD_idx]
  have hw : IntKind.wrap .i64 (a + ([d] : List Int).length) = a + 1 := wrapK _ (by simp; omega) (by simp; omega)
  rw [hw, ea]
  refine ⟨fun h => ⟨⟨h, by omega⟩, ⟨by omega, by omega⟩, ?_⟩, fun h => ?_⟩
  . rw [if_pos h, show (idxB l d + 1).toNat = (idxB l d).toNat + 1 by omega]
    exact ⟨rfl, rfl, rfl⟩
  . rw [if_neg h]
    exact ⟨rfl, rfl, rfl⟩
theorem h75 : c_stringslite_Cut.ok Tryz.prog GL 75 := con_ok (H := {}) (mkEnv_ok (gl := GL) (l := [(99, conSem c_stringslite_Index)]) (q := []) (d := []) _ tyOk (by kernel_rfl) ⟨h99.call, trivial⟩ trivial trivial) (by kernel_rfl) (by kernel_rfl) (Eq.mp e75 k75)
def t46 : Prop :=
  ∀ (x : q2), (q53 x) -> List.length x.1 < q54 /\ List.length x.2.1 = q59 -> (List.length x.1 < q54 /\ List.length x.2.1 = q59) /\ (∀ (y : q3), (q60 y) -> y.1 = (q57 x).1 /\ y.2.1 = (q57
  x).2.1 /\ y.2.2.1 = (q57 x).2.2 -> y.1 = (q57 x).1 /\ y.2.1 = (q57 x).2.1 /\ y.2.2.1 = (q57 x).2.2) /\ True
theorem e46 : t46 = Con.vc c_strings_Cut GL (mkEnv ty [(75, conSem c_stringslite_Cut)] [] [] [0, 1, 4, 5, 6]) {} Tryz.f46.ntmps Tryz.f46.results.toList (bodyOf Tryz.f46) := by kernel_rfl
theorem k46 : t46 := by
  unfold t46
  delta q2 q53 q54 q59 q3 q60 q57 wsZ wbZ q477 q452
  rintro ⟨l, c, _⟩ hx hp
  try dsimp +instances only [dft_int, dft_sl, dft_str]
  simp only [true_and, and_true, eq_self_iff_true, implies_true, reduceCtorEq, false_implies, true_implies, decide_eq_true_eq, decide_eq_false_iff_not, beq_self_eq_true, Bool.not_eq_true', ne_eq, Decidable.not_not, List.nil_append, List.length_singleton, List.length_cons, List.length_nil, Nat.zero_add, Nat.add_zero, Nat.mul_one, and_self, beq_iff_eq, Bool.not_true, Bool.not_false, Bool.not_eq_false', Bool.cond_false_right, Bool.and_eq_true, imp_self, Bool.not_eq_true, Bool.cond_true_left, Bool.or_eq_true]
  exact hp
theorem h46 : c_strings_Cut.ok Tryz.prog GL 46 := con_ok (H := {}) (mkEnv_ok (gl := GL) (l := [(75, conSem c_stringslite_Cut)]) (q := []) (d := []) _ tyOk (by kernel_rfl) ⟨h75.call, trivial⟩ trivial trivial) (by kernel_rfl) (by kernel_rfl) (Eq.mp e46 k46)
def t89 : Prop :=
  ∀ (x : q2), (q53 x) -> True -> (q64 x) /\ (q64 x) /\ (q63 x) /\ (q61 x) /\ (q64 x) /\ (q62 x) /\ (decide (q66 x) = true -> (q65 x) = true) /\ (bif decide (q66 x) then decide (List.take
  (Int.toNat (lnZ x.2.1)) x.1 = x.2.1) else false) = hasP x.2.1 x.1
theorem e89 : t89 = Con.vc c_stringslite_HasPrefix GL (mkEnv ty [] [] [] [0, 1, 4]) {} Tryz.f89.ntmps Tryz.f89.results.toList (bodyOf Tryz.f89) := by kernel_rfl
theorem k89 : t89 := by
  unfold t89
  delta q2 q53 q64 q63 q61 q62 q66 q65 lnZ wsZ q496 q452
  rintro ⟨l, c, _⟩ hx hp
  try dsimp +instances only [dft_int, dft_sl, dft_str]
  simp only [true_and, and_true, eq_self_iff_true, implies_true, reduceCtorEq, false_implies, true_implies, decide_eq_true_eq, decide_eq_false_iff_not, beq_self_eq_true, Bool.not_eq_true', ne_eq, Decidable.not_not, List.nil_append, List.length_singleton, List.length_cons, List.length_nil, Nat.zero_add, Nat.add_zero, Nat.mul_one, and_self, beq_iff_eq, Bool.not_true, Bool.not_false, Bool.not_eq_false', Bool.cond_false_right, Bool.and_eq_true, imp_self, Bool.not_eq_true, Bool.cond_true_left, Bool.or_eq_true]
  refine ⟨fun h => ⟨h, h, by omega, h⟩, ?_⟩
  rw [Int.toNat_natCast, hasP]
  by_cases h : l.take c.length = c
  . have := congrArg List.length h
    rw [List.length_take] at this
    rw [decide_eq_true h, decide_eq_true (by omega)]; rfl
  . rw [decide_eq_false h, Bool.and_false]
theorem h89 : c_stringslite_HasPrefix.ok Tryz.prog GL 89 := con_ok (H := {}) (mkEnv_ok (gl := GL) (l := []) (q := []) (d := []) _ tyOk (by kernel_rfl) trivial trivial trivial) (by kernel_rfl) (by kernel_rfl) (Eq.mp e89 k89)
def t70 : Prop :=
  ∀ (x : q2), (q53 x) -> True -> True /\ (∀ (y : q4), (q67 y) -> y.1 = hasP x.2.1 x.1 -> ((!y.1) = true -> (x.1 = if hasP x.2.1 x.1 = true then List.drop (List.length x.2.1) x.1 else x.1) /\
  false = hasP x.2.1 x.1) /\ ((!y.1) = false -> (q452 <= (lnZ x.2.1) /\ (lnZ x.2.1) <= (lnZ x.1)) /\ (List.drop (Int.toNat (lnZ x.2.1)) x.1 = if hasP x.2.1 x.1 = true then List.drop
  (List.length x.2.1) x.1 else x.1) /\ true = hasP x.2.1 x.1)) /\ True
theorem e70 : t70 = Con.vc c_stringslite_CutPrefix GL (mkEnv ty [(89, conSem c_stringslite_HasPrefix)] [] [] [0, 1, 4, 5, 9]) {} Tryz.f70.ntmps Tryz.f70.results.toList (bodyOf Tryz.f70) := by kernel_rfl
theorem k70 : t70 := by
  unfold t70
  delta q2 q53 q4 q67 q452 lnZ wsZ wbZ
  rintro ⟨l, c, _⟩ hx hp
  try dsimp +instances only [dft_int, dft_sl, dft_str]
  simp only [true_and, and_true, eq_self_iff_true, implies_true, reduceCtorEq, false_implies, true_implies, decide_eq_true_eq, decide_eq_false_iff_not, beq_self_eq_true, Bool.not_eq_true', ne_eq, Decidable.not_not, List.nil_append, List.length_singleton, List.length_cons, List.length_nil, Nat.zero_add, Nat.add_zero, Nat.mul_one, and_self, beq_iff_eq, Bool.not_true, Bool.not_false, Bool.not_eq_false', Bool.cond_false_right, Bool.and_eq_true, imp_self, Bool.not_eq_true, Bool.cond_true_left, Bool.or_eq_true]
  rintro ⟨a, _⟩ _ ea
  simp only at ea ⊢
  refine ⟨fun h => ?_, fun h => ?_⟩
  . rw [← ea, h]
    exact ⟨rfl, rfl⟩
  . have hq := ea.symm.trans h
    rw [← ea, h]
    unfold hasP at hq
    have := congrArg List.length (of_decide_eq_true hq)
    rw [List.length_take] at this
    exact ⟨⟨by omega, by omega⟩, rfl, rfl⟩
theorem h70 : c_stringslite_CutPrefix.ok Tryz.prog GL 70 := con_ok (H := {}) (mkEnv_ok (gl := GL) (l := [(89, conSem c_stringslite_HasPrefix)]) (q := []) (d := []) _ tyOk (by kernel_rfl) ⟨h89.call, trivial⟩ trivial trivial) (by kernel_rfl) (by kernel_rfl) (Eq.mp e70 k70)
def t42 : Prop :=
  ∀ (x : q2), (q53 x) -> True -> True /\ (∀ (y : q5), (wsZ y.1 /\ wbZ y.2.1 /\ True) -> (y.1 = if hasP x.2.1 x.1 = true then List.drop (List.length x.2.1) x.1 else x.1) /\ y.2.1 = hasP x.2.1
  x.1 -> (y.1 = if hasP x.2.1 x.1 = true then List.drop (List.length x.2.1) x.1 else x.1) /\ y.2.1 = hasP x.2.1 x.1) /\ True
theorem e42 : t42 = Con.vc c_strings_CutPrefix GL (mkEnv ty [(70, conSem c_stringslite_CutPrefix)] [] [] [0, 1, 4, 5]) {} Tryz.f42.ntmps Tryz.f42.results.toList (bodyOf Tryz.f42) := by kernel_rfl
theorem k42 : t42 := by
  unfold t42
  delta q2 q53 q5 wsZ wbZ
  rintro ⟨l, c, _⟩ hx hp
  try dsimp +instances only [dft_int, dft_sl, dft_str]
  simp only [true_and, and_true, eq_self_iff_true, implies_true, reduceCtorEq, false_implies, true_implies, decide_eq_true_eq, decide_eq_false_iff_not, beq_self_eq_true, Bool.not_eq_true', ne_eq, Decidable.not_not, List.nil_append, List.length_singleton, List.length_cons, List.length_nil, Nat.zero_add, Nat.add_zero, Nat.mul_one, and_self, beq_iff_eq, Bool.not_true, Bool.not_false, Bool.not_eq_false', Bool.cond_false_right, Bool.and_eq_true, imp_self, Bool.not_eq_true, Bool.cond_true_left, Bool.or_eq_true]
theorem h42 : c_strings_CutPrefix.ok Tryz.prog GL 42 := con_ok (H := {}) (mkEnv_ok (gl := GL) (l := [(70, conSem c_stringslite_CutPrefix)]) (q := []) (d := []) _ tyOk (by kernel_rfl) ⟨h70.call, trivial⟩ trivial trivial) (by kernel_rfl) (by kernel_rfl) (Eq.mp e42 k42)
end Go.Proofs.YtgnlcpoeepfdoaaGreatDoor
end
section
namespace Go.Proofs.YtgnlcpoeepfdoaaGreatDoor
open Go Go.Vc Go.Pl Go.Proofs
def c_utf8_DecodeRuneInString : Con := { args := [.dat .str], res := [.dat I32, .dat I64], pre := fun _ => True, post := fun x y => y.1 = (decD x.1).1 ∧ y.2.1 = (decD x.1).2 }
def c_utf8_decodeRuneInStringSlow : Con := { args := [.dat .str], res := [.dat I32, .dat I64], pre := fun _ => True, post := fun x y => y.1 = (decD x.1).1 ∧ y.2.1 = (decD x.1).2 }
def c_text_Valid : Con := { args := [.dat .str], res := [.dat I64], pre := fun _ => True, post := fun x y => y.1 = vld x.1 0 }
def c_r05_Valid : Con := { args := [.dat .str], res := [.dat I64], pre := fun x => x.1.length ≤ 1000000000, post := fun x y => y.1 = vld x.1 0 }
def c_r05_more : Con := { args := [.dat .str, .dat I64, .dat I64], res := [.dat .bool], pre := fun x => x.1.length ≤ 1000000000 ∧ 0 ≤ x.2.1 ∧ x.2.1 ≤ 1000000000 ∧ 0 ≤ x.2.2.1 ∧ x.2.2.1 ≤ 3, post := fun x y => y.1 = moreD x.1 x.2.1.toNat x.2.2.1.toNat }
def c_r05_character : Con := { args := [.dat .str, .dat I64], res := [.dat I64], pre := fun x => x.1.length ≤ 1000000000 ∧ 0 ≤ x.2.1 ∧ x.2.1 < x.1.length, post := fun x y => y.1 = chw x.1 x.2.1.toNat }
def c_text_small : Con := { args := [.dat U8], res := [.dat U8], pre := fun _ => True, post := fun x y => y.1 = smallD x.1 }
def c_text_prints : Con := { args := [.dat U8], res := [.dat .bool], pre := fun _ => True, post := fun x y => y.1 = printsD x.1 }
def c_r05_Prints : Con := { args := [.dat U8], res := [.dat .bool], pre := fun _ => True, post := fun x y => y.1 = printsD x.1 }
def c_r05_Words : Con := { args := [.dat .str], res := [.own 9 .str], pre := fun x => x.1.length ≤ 100000000, post := fun x y => y.1 = wordsD x.1 }
def c_text_Fold : Con := { args := [.dat .str], res := [.dat .str], pre := fun x => x.1.length ≤ 100000000, post := fun x y => y.1 = foldD x.1 }
def c_r05_Fold : Con := { args := [.dat .str], res := [.dat .str], pre := fun x => x.1.length ≤ 100000000, post := fun x y => y.1 = foldD x.1 }
def c_text_Same : Con := { args := [.dat .str, .dat .str], res := [.dat .bool], pre := fun x => x.1.length ≤ 100000000 ∧ x.2.1.length ≤ 100000000, post := fun x y => y.1 = decide (foldD x.1 = foldD x.2.1) }
def c_text_May : Con := { args := [.dat I64, .dat .str], res := [.dat .bool], pre := fun _ => True, post := fun x y => y.1 = mayD x.1 x.2.1 }
def c_r05_May : Con := { args := [.dat I64, .dat .str], res := [.dat .bool], pre := fun x => x.2.1.length ≤ 1000000000, post := fun x y => y.1 = mayD x.1 x.2.1 }
def c_text_Kind : Con := { args := [.dat .str], res := [.dat I64, .dat I64], pre := fun _ => True, post := fun x y => y.1 = (kindD x.1).1 ∧ y.2.1 = (kindD x.1).2 }
def c_r05_Kind : Con := { args := [.dat .str], res := [.dat I64, .dat I64], pre := fun x => x.1.length ≤ 1000000000, post := fun x y => y.1 = (kindD x.1).1 ∧ y.2.1 = (kindD x.1).2 }
end Go.Proofs.YtgnlcpoeepfdoaaGreatDoor
end
section
namespace Go.Proofs.YtgnlcpoeepfdoaaGreatDoor
open Go Go.Vc Go.Pl Go.Proofs
set_option linter.unusedVariables false
set_option linter.unusedSimpArgs false
abbrev wyZ (x : List Int) : Prop := Kd.wf (Kd.sl (Kd.int IntKind.u8)) x
abbrev q6 := (List Int × Unit)
abbrev q7 := (Int × Int × Unit)
abbrev q8 := (Int × Bool × Unit -> Unit -> Prop)
abbrev q9 := (Int × Bool × Unit -> Unit -> Nat)
abbrev q10 := (Int × Bool × Unit)
abbrev q11 := (Int × Int × Unit -> Unit -> Prop)
abbrev q12 := (Int × Int × Unit -> Unit -> Nat)
abbrev q13 := (Int × Unit -> Unit -> Prop)
abbrev q14 := (List (List Int) × Unit)
abbrev q15 := (Int × Unit -> Unit × (List Int × Unit) × List Int × Unit -> Prop)
abbrev q16 := (Int × Unit -> Unit × (List Int × Unit) × List Int × Unit -> Nat)
abbrev q17 := (Unit × (List Int × Unit) × List Int × Unit)
abbrev q18 := (Int × Unit -> List Int × Unit -> Prop)
abbrev q19 := (Int × Unit -> List Int × Unit -> Nat)
abbrev q556 := (1 : Nat)
abbrev q557 := (0 : Int)
abbrev q584 (p0 : q6) := (Int.toNat (List.getD p0.1 (0 : Nat) (0 : Int)))
abbrev q585 := (Kd.dft (Kd.int IntKind.u8))
abbrev q574 (p0 : q6) := (Int.toNat (Int.fdiv (List.getD Lib.firstTab (q584 p0) q585) ((2 : Int) ^ (4 : Nat))))
abbrev q497 (p0 : q6) := (List.getD p0.1 q556 q557 < (List.getD accTab (q574 p0) (Kd.dft (Kd.pair q553 q553))).1)
abbrev q498 (p0 : q6) := (List.getD accTab (q574 p0) (Kd.dft (Kd.pair q553 q553)))
abbrev q68 (p0 : q6) := (bif decide (q497 p0) then true else decide ((q498 p0).2 < List.getD p0.1 q556 q452))
abbrev q69 (p0 : q6) := (decide (q497 p0) = false -> True)
abbrev q70 (p0 : q6) := (decide (q497 p0) == false)
abbrev q71 (p0 : q6) := (List.getD p0.1 q556 q452 < (q498 p0).1)
abbrev q554 := (8 : Nat)
abbrev q560 (p0 : q6) := (List.getD Lib.firstTab (q584 p0) q585)
abbrev q499 (p0 : q6) := (IntKind.wrap IntKind.u8 (↑(BitVec.toNat (BitVec.ofInt q554 (q560 p0) &&& BitVec.ofInt q554 (7 : Int))) : Int))
abbrev q72 (p0 : q6) := ((lnZ p0.1) < wrZ (q499 p0))
abbrev q500 := (2 : Int)
abbrev q73 (p0 : q6) := (wrZ (q499 p0) <= q500)
abbrev q74 (p0 : q6) := (wrZ (q499 p0) <= (3 : Int))
abbrev q75 (p0 : q6) := (Int.fdiv (IntKind.wrap IntKind.i32 (IntKind.wrap IntKind.i32 (q560 p0) * q500 ^ (31 : Nat))) (q500 ^ (31 : Nat)))
abbrev q76 (p0 : q6) := (IntKind.wrap IntKind.u8 (↑(BitVec.toNat (BitVec.ofInt q554 (List.getD p0.1 q556 q452) &&& BitVec.ofInt q554 (63 : Int))) : Int))
abbrev q77 (p0 : q6) := (IntKind.wrap IntKind.u8 (↑(BitVec.toNat (BitVec.ofInt q554 (List.getD p0.1 (2 : Nat) q452) &&& BitVec.ofInt q554 (63 : Int))) : Int))
abbrev q78 (p0 : q6) := (bif decide (List.getD p0.1 (2 : Nat) q452 < (128 : Int)) then true else decide ((191 : Int) < List.getD p0.1 (2 : Nat) q452))
abbrev q79 (p0 : q6) := (bif decide (List.getD p0.1 (3 : Nat) q452 < (128 : Int)) then true else decide ((191 : Int) < List.getD p0.1 (3 : Nat) q452))
abbrev q501 := (Kd.dft q553)
abbrev q80 (p0 : q6) := ((240 : Int) <= List.getD Lib.firstTab (q584 p0) q501)
abbrev q81 (p0 : q6) := (List.getD Lib.firstTab (q584 p0) q501)
abbrev q82 (p0 : q6) := (List.getD p0.1 (2 : Nat) q452 < (128 : Int))
abbrev q83 (p0 : q6) := (List.getD p0.1 (3 : Nat) q452 < (128 : Int))
abbrev q84 (p0 : q6) := (q452 <= q452 /\ q452 < (lnZ p0.1))
abbrev q491 := (1 : Int)
abbrev q85 (p0 : q6) := (q452 <= q491 /\ q491 < (lnZ p0.1))
abbrev q86 (p0 : q6) := (List.getD p0.1 q477 q452)
abbrev q87 (p0 : q6) := ((lnZ p0.1) < q491)
abbrev q88 (p0 : q6) := (wsZ p0.1 /\ True)
abbrev q89 := (65536 : Nat)
abbrev q90 := (12 : Int)
abbrev q91 := (0 : Nat)
abbrev q92 := (1 : Int)
abbrev q93 := (2 : Nat)
abbrev q94 := (2 : Int)
abbrev q95 (p0 : q6) := (bif decide (p0.1 ≠ bs { data := #[] }) then decide (List.getD p0.1 q477 q452 < (128 : Int)) else false)
abbrev q96 (p0 : q6) := (p0.1 ≠ bs { data := #[] })
abbrev q454 (p0 : List Int × Int × Int × Unit) (p1 : q10) := ((lnZ p0.1) <= wrZ (p0.2.1 + p1.1))
abbrev q502 (p0 : List Int × Int × Int × Unit) (p1 : q10) := (List.getD p0.1 (Int.toNat (wrZ (p0.2.1 + p1.1))) q557 < (128 : Int))
abbrev q97 (p0 : List Int × Int × Int × Unit) (p1 : q10) := (bif bif decide (q454 p0 p1) then true else decide (q502 p0 p1) then true else decide ((191 : Int) < List.getD p0.1 (Int.toNat
  (wrZ (p0.2.1 + p1.1))) q452))
abbrev q98 (p0 : List Int × Int × Int × Unit) (p1 : q10) := ((bif decide (q454 p0 p1) then true else decide (q502 p0 p1)) = false -> True)
abbrev q99 (p0 : List Int × Int × Int × Unit) (p1 : q10) := ((bif decide (q454 p0 p1) then true else decide (q502 p0 p1)) == false)
abbrev q100 (p0 : List Int × Int × Int × Unit) (p1 : q10) := (bif decide (q454 p0 p1) then true else decide (q502 p0 p1))
abbrev q101 (p0 : List Int × Int × Int × Unit) (p1 : q10) := (decide (q454 p0 p1) == false)
abbrev q102 (p0 : q10) := (wiZ p0.1 /\ wbZ p0.2.1 /\ True)
abbrev q103 := (1000000000 : Nat)
abbrev q104 (p0 : q10) := (p0.1 + q491)
abbrev q503 (p0 : q7) (p1 : q1) := (bif decide (p0.2.1 < p1.1) then true else decide ((1114111 : Int) < p0.2.1))
abbrev q105 (p0 : q7) (p1 : q1) := ((q503 p0 p1) == false && (q503 p0 p1) == false && decide ((55296 : Int) <= p0.2.1) == true)
abbrev q106 (p0 : q7) (p1 : q1) := (bif bif decide (p0.2.1 < p1.1) then true else decide ((1114111 : Int) < p0.2.1) then true else bif decide ((55296 : Int) <= p0.2.1) then decide (p0.2.1
  <= (57343 : Int)) else false)
abbrev q107 (p0 : q7) (p1 : q1) := ((q503 p0 p1) == false && (q503 p0 p1) == false)
abbrev q108 (p0 : q0) := (bif decide (wrZ (List.getD p0.1 (Int.toNat p0.2.1) q452) < (192 : Int)) then true else decide ((247 : Int) < wrZ (List.getD p0.1 (Int.toNat p0.2.1) q452)))
abbrev q109 (p0 : q7) (p1 : q1) := (bif decide (p0.2.1 < p1.1) then true else decide ((1114111 : Int) < p0.2.1))
abbrev q110 (p0 : q0) := (wrZ (List.getD p0.1 (Int.toNat p0.2.1) q452) < (192 : Int))
abbrev q111 (p0 : q0) := (List.getD p0.1 (Int.toNat p0.2.1) q452)
abbrev q112 (p0 : q0) := (↑(chw p0.1 (Int.toNat p0.2.1)) : Int)
abbrev q113 (p0 : q7) := (wiZ p0.1 /\ wiZ p0.2.1 /\ True)
abbrev q114 (p0 : q7) := (p0.1 + q491)
abbrev q115 := (128 : Int)
abbrev q116 (p0 : q1) := (p0.1 = q452)
abbrev q555 := (65 : Int)
abbrev q456 (p0 : q1) := (q555 <= p0.1)
abbrev q117 (p0 : q1) := ((bif decide (q456 p0) then decide (p0.1 <= (90 : Int)) else false) = false -> p0.1 = smallD p0.1)
abbrev q118 (p0 : q1) := (decide (q456 p0) = true -> (decide (q456 p0) == true) = true /\ True)
abbrev q119 (p0 : q1) := (decide (q456 p0) = true -> (decide (q456 p0) == true) = true)
abbrev q120 (p0 : q1) := (bif decide (q456 p0) then decide (p0.1 <= (90 : Int)) else false)
abbrev q121 (p0 : q1) := (Kd.wf q553 p0.1 /\ True)
abbrev q122 (p0 : q1) := (decide ((97 : Int) <= p0.1) = true -> (decide ((97 : Int) <= p0.1) == true) = true /\ True)
abbrev q459 := (48 : Int)
abbrev q123 (p0 : q1) := (decide (q459 <= p0.1) = true -> (decide (q459 <= p0.1) == true) = true /\ True)
abbrev q124 (p0 : q1) := (decide ((97 : Int) <= p0.1) = true -> (decide ((97 : Int) <= p0.1) == true) = true)
abbrev q125 (p0 : q1) := (decide (q459 <= p0.1) = true -> (decide (q459 <= p0.1) == true) = true)
abbrev q126 (p0 : q1) := (bif decide (q459 <= p0.1) then decide (p0.1 <= (57 : Int)) else false)
abbrev q458 (p0 : q1) := (bif decide ((97 : Int) <= p0.1) then decide (p0.1 <= (122 : Int)) else false)
abbrev q575 (p0 : q1) := (bif decide ((97 : Int) <= p0.1) then decide (p0.1 <= (122 : Int)) else false)
abbrev q505 (p0 : q1) := ((q575 p0) == false && (q575 p0) == false)
abbrev q504 (p0 : q1) := ((q575 p0) == false && (q575 p0) == false && decide (q555 <= p0.1) == true)
abbrev q127 (p0 : q1) := ((q458 p0) = false -> (q505 p0) = true /\ (decide (q456 p0) = true -> (q504 p0) = true) /\ True)
abbrev q128 (p0 : q1) := ((q505 p0) = true -> decide (q456 p0) = true -> (q504 p0) = true /\ True)
abbrev q506 (p0 : q1) := (bif bif decide ((97 : Int) <= p0.1) then decide (p0.1 <= (122 : Int)) else false then true else bif decide (q555 <= p0.1) then decide (p0.1 <= (90 : Int)) else
  false)
abbrev q129 (p0 : q1) := ((q506 p0) == false && (q506 p0) == false && decide (q459 <= p0.1) == true)
abbrev q130 (p0 : q1) := ((q506 p0) == false && (q506 p0) == false)
abbrev q131 (p0 : q1) := (bif bif bif decide ((97 : Int) <= p0.1) then decide (p0.1 <= (122 : Int)) else false then true else bif decide (q456 p0) then decide (p0.1 <= (90 : Int)) else
  false then true else bif decide (q459 <= p0.1) then decide (p0.1 <= (57 : Int)) else false)
abbrev q457 := (bs { data := #[(32 : UInt8), (39 : UInt8), (40 : UInt8), (41 : UInt8), (43 : UInt8), (44 : UInt8), (45 : UInt8), (46 : UInt8), (47 : UInt8), (58 : UInt8), (61 : UInt8), (63
  : UInt8)] })
abbrev q507 (p0 : q10) := (Int.toNat p0.1)
abbrev q132 (p0 : q10) (p1 : q1) := (List.getD q457 (q507 p0) q452 = p1.1)
abbrev q133 (p0 : q1) := ((q505 p0) = true -> decide (q456 p0) = true -> True)
abbrev q134 (p0 : q1) := ((q458 p0) = false -> ((q458 p0) == false) = true /\ True)
abbrev q135 (p0 : q1) := ((q506 p0) = false -> True)
abbrev q136 (p0 : q1) := ((q458 p0) = false -> ((q458 p0) == false) = true)
abbrev q137 (p0 : q1) := ((q506 p0) == false)
abbrev q138 (p0 : q1) := (bif bif decide ((97 : Int) <= p0.1) then decide (p0.1 <= (122 : Int)) else false then true else bif decide (q456 p0) then decide (p0.1 <= (90 : Int)) else false)
abbrev q139 (p0 : q1) := ((q458 p0) = false -> True)
abbrev q140 := (46 : UInt8)
abbrev q141 (p0 : Int × List Int × Unit) := ((4096 : Int) < (lnZ p0.2.1))
abbrev q142 (p0 : q10) := (Int.toNat p0.1)
abbrev q143 (p0 : Int × List Int × Unit) := (decide ((4096 : Int) < (lnZ p0.2.1)) == false && decide ((4096 : Int) < (lnZ p0.2.1)) == false && (bif decide (p0.1 ≠ (12 : Int)) then decide
  (p0.1 ≠ (19 : Int)) else false) == true)
abbrev q144 (p0 : Int × List Int × Unit) := (bif decide ((4096 : Int) < (lnZ p0.2.1)) then true else bif bif decide (p0.1 ≠ (12 : Int)) then decide (p0.1 ≠ (19 : Int)) else false then
  decide (p0.1 ≠ (22 : Int)) else false)
abbrev q145 (p0 : Int × List Int × Unit) := (decide ((4096 : Int) < (lnZ p0.2.1)) == false && decide ((4096 : Int) < (lnZ p0.2.1)) == false && decide (p0.1 ≠ (12 : Int)) == true)
abbrev q146 (p0 : Int × List Int × Unit) := (decide ((4096 : Int) < (lnZ p0.2.1)) == false && decide ((4096 : Int) < (lnZ p0.2.1)) == false)
abbrev q147 (p0 : Int × List Int × Unit) := (bif decide (p0.1 ≠ (12 : Int)) then decide (p0.1 ≠ (19 : Int)) else false)
abbrev q148 (p0 : q4) := ((!p0.1) = false -> ((!p0.1) == false) = true /\ True)
abbrev q149 (p0 : q14) := (Kd.wf (Kd.sl Kd.str) p0.1 /\ True)
abbrev q150 (p0 : q7) (p1 : q6) := (List.take (Int.toNat p0.1) p1.1)
abbrev q151 := (9223372036854775807 : Nat)
abbrev q152 := (140737488355328 : Nat)
abbrev q153 := (100000000 : Nat)
abbrev q154 (p0 : q1) (p1 : q1) (p2 : q17) (p3 : q1) := (List.getD (List.drop (Int.toNat p0.1) (List.take (Int.toNat (wrZ (p0.1 + p1.1))) p2.2.1.1)) (Int.toNat p3.1) q452)
abbrev q155 (p0 : q1) (p1 : q1) (p2 : q17) := (lnZ (List.drop (Int.toNat p0.1) (List.take (Int.toNat (wrZ (p0.1 + p1.1))) p2.2.1.1)))
abbrev q156 (p0 : q1) (p1 : q1) (p2 : q17) := (List.take (Int.toNat (wrZ (p0.1 + p1.1))) p2.2.1.1)
abbrev q157 (p0 : q1) := (decide (q452 < p0.1) = true -> True)
abbrev q158 (p0 : q1) := (decide (q452 < p0.1) == true)
abbrev q159 (p0 : q1) := (p0.1 + q491)
abbrev q160 (p0 : q1) := (q452 < p0.1)
abbrev q161 := (List Int × Unit)
abbrev q162 (p0 : q14) (p1 : q1) (p2 : q1) := (bif decide (q555 <= List.getD (List.getD p0.1 (Int.toNat p1.1) (Kd.dft Kd.str)) (Int.toNat p2.1) q452) then decide (List.getD (List.getD p0.1
  (Int.toNat p1.1) (Kd.dft Kd.str)) (Int.toNat p2.1) q452 <= (90 : Int)) else false)
abbrev q163 (p0 : q14) (p1 : q1) (p2 : q1) := (q555 <= List.getD (List.getD p0.1 (Int.toNat p1.1) (Kd.dft Kd.str)) (Int.toNat p2.1) q452)
abbrev q164 (p0 : q14) (p1 : q1) := (List.getD p0.1 (Int.toNat p1.1) (Kd.dft Kd.str))
abbrev q165 (p0 : q6) := (wyZ p0.1 /\ True)
abbrev q455 := (64 : Int)
abbrev q453 := (4 : Int)
def t100 : Prop :=
  ∀ (x : q6), (q88 x) -> True -> (decide (q87 x) = true -> (65533 : Int) = (decD x.1).1 /\ q56 = (decD x.1).2) /\ (decide (q87 x) = false -> (q84 x) /\ (q56 <= List.getD x.1 q91 q56 /\
  List.getD x.1 q91 q56 < (↑(256 : Nat) : Int) /\ List.getD x.1 q91 q56 < (↑(256 : Nat) : Int)) /\ (decide (q80 x) = true -> q56 <= (31 : Int) /\ q56 <= (31 : Int) /\ (q84 x) /\ IntKind.wrap
  IntKind.i32 (↑(BitVec.toNat (BitVec.ofInt (32 : Nat) (IntKind.wrap IntKind.i32 (↑(BitVec.toNat (BitVec.ofInt (32 : Nat) (IntKind.wrap IntKind.i32 (q86 x)) &&& ~~~BitVec.ofInt (32 : Nat)
  (q75 x))) : Int)) ||| BitVec.ofInt (32 : Nat) (IntKind.wrap IntKind.i32 (↑(BitVec.toNat (BitVec.ofInt (32 : Nat) (65533 : Int) &&& BitVec.ofInt (32 : Nat) (q75 x))) : Int)))) : Int) = (decD
  x.1).1 /\ q92 = (decD x.1).2) /\ (decide (q80 x) = false -> q56 <= q453 /\ (q56 <= Int.fdiv (q81 x) ((2 : Int) ^ (4 : Nat)) /\ Int.fdiv (q81 x) ((2 : Int) ^ (4 : Nat)) < (↑(16 : Nat) : Int)
  /\ Int.fdiv (q81 x) ((2 : Int) ^ (4 : Nat)) < (↑(16 : Nat) : Int)) /\ q93 <= q89 /\ (decide (q72 x) = true -> (65533 : Int) = (decD x.1).1 /\ q92 = (decD x.1).2) /\ (decide (q72 x) = false
  -> (q85 x) /\ (q69 x) /\ (decide (q71 x) = false -> (q70 x) = true /\ True) /\ (q69 x) /\ (decide (q71 x) = false -> (q70 x) = true /\ (q70 x) = true /\ True) /\ (decide (q71 x) = false ->
  (q70 x) = true) /\ ((q68 x) = true -> (65533 : Int) = (decD x.1).1 /\ q92 = (decD x.1).2) /\ ((q68 x) = false -> (decide (q73 x) = true -> q56 <= (6 : Int) /\ IntKind.wrap IntKind.i32
  (↑(BitVec.toNat (BitVec.ofInt (32 : Nat) (IntKind.wrap IntKind.i32 (IntKind.wrap IntKind.i32 (IntKind.wrap IntKind.u8 (↑(BitVec.toNat (BitVec.ofInt q554 (q86 x) &&& BitVec.ofInt q554 (31 :
  Int))) : Int)) * q94 ^ (6 : Nat))) ||| BitVec.ofInt (32 : Nat) (IntKind.wrap IntKind.i32 (q76 x)))) : Int) = (decD x.1).1 /\ q94 = (decD x.1).2) /\ (decide (q73 x) = false -> (q56 <= q94 /\
  q94 < (lnZ x.1)) /\ (decide (q82 x) = false -> True) /\ (decide (q82 x) = false -> (decide (q82 x) == false) = true /\ True) /\ (decide (q82 x) = false -> (decide (q82 x) == false) = true)
  /\ ((q78 x) = true -> (65533 : Int) = (decD x.1).1 /\ q92 = (decD x.1).2) /\ ((q78 x) = false -> (decide (q74 x) = true -> q56 <= q90 /\ q56 <= (6 : Int) /\ IntKind.wrap IntKind.i32
  (↑(BitVec.toNat (BitVec.ofInt (32 : Nat) (IntKind.wrap IntKind.i32 (↑(BitVec.toNat (BitVec.ofInt (32 : Nat) (IntKind.wrap IntKind.i32 (IntKind.wrap IntKind.i32 (IntKind.wrap IntKind.u8
  (↑(BitVec.toNat (BitVec.ofInt q554 (q86 x) &&& BitVec.ofInt q554 (15 : Int))) : Int)) * q94 ^ (12 : Nat))) ||| BitVec.ofInt (32 : Nat) (IntKind.wrap IntKind.i32 (IntKind.wrap IntKind.i32
  (q76 x) * q94 ^ (6 : Nat))))) : Int)) ||| BitVec.ofInt (32 : Nat) (IntKind.wrap IntKind.i32 (q77 x)))) : Int) = (decD x.1).1 /\ (3 : Int) = (decD x.1).2) /\ (decide (q74 x) = false -> (q56
  <= (3 : Int) /\ (3 : Int) < (lnZ x.1)) /\ (decide (q83 x) = false -> True) /\ (decide (q83 x) = false -> (decide (q83 x) == false) = true /\ True) /\ (decide (q83 x) = false -> (decide (q83
  x) == false) = true) /\ ((q79 x) = true -> (65533 : Int) = (decD x.1).1 /\ q92 = (decD x.1).2) /\ ((q79 x) = false -> q56 <= (18 : Int) /\ q56 <= q90 /\ q56 <= (6 : Int) /\ IntKind.wrap
  IntKind.i32 (↑(BitVec.toNat (BitVec.ofInt (32 : Nat) (IntKind.wrap IntKind.i32 (↑(BitVec.toNat (BitVec.ofInt (32 : Nat) (IntKind.wrap IntKind.i32 (↑(BitVec.toNat (BitVec.ofInt (32 : Nat)
  (IntKind.wrap IntKind.i32 (IntKind.wrap IntKind.i32 (IntKind.wrap IntKind.u8 (↑(BitVec.toNat (BitVec.ofInt q554 (q86 x) &&& BitVec.ofInt q554 (7 : Int))) : Int)) * q94 ^ (18 : Nat))) |||
  BitVec.ofInt (32 : Nat) (IntKind.wrap IntKind.i32 (IntKind.wrap IntKind.i32 (q76 x) * q94 ^ (12 : Nat))))) : Int)) ||| BitVec.ofInt (32 : Nat) (IntKind.wrap IntKind.i32 (IntKind.wrap
  IntKind.i32 (q77 x) * q94 ^ (6 : Nat))))) : Int)) ||| BitVec.ofInt (32 : Nat) (IntKind.wrap IntKind.i32 (IntKind.wrap IntKind.u8 (↑(BitVec.toNat (BitVec.ofInt q554 (List.getD x.1 (3 : Nat)
  q56) &&& BitVec.ofInt q554 (63 : Int))) : Int))))) : Int) = (decD x.1).1 /\ q453 = (decD x.1).2))))))))
theorem e100 : t100 = Con.vc c_utf8_decodeRuneInStringSlow GL (mkEnv ty [] [] [] [0, 2, 3, 4, 5, 6, 7, 8, 9, 10, 11, 12, 16, 23, 45, 57, 59, 75, 77, 98]) {} Tryz.f100.ntmps Tryz.f100.results.toList (bodyOf Tryz.f100) := by kernel_rfl
theorem k100 : t100 := by
  unfold t100
  delta q6 q88 q87 q56 q84 q91 q80 q86 q75 q92 q453 q81 q93 q89 q72 q85 q69 q71 q70 q68 q73 q554 q94 q76 lnZ q82 q78 q74 q90 q77 q83 q79 wsZ q491 q452 q584 q501 q477 q560 q500 wrZ q499 q497 q556 q498 q553 q585 q557 q574
  rintro ⟨l, _⟩ hx hp
  have hw : Kd.wf Kd.str l := hx.1
  try dsimp +instances only [dft_int, dft_sl, dft_str]
  simp only [true_and, and_true, eq_self_iff_true, implies_true, reduceCtorEq, false_implies, true_implies, decide_eq_true_eq, decide_eq_false_iff_not, beq_self_eq_true, Bool.not_eq_true', ne_eq, Decidable.not_not, List.nil_append, List.length_singleton, List.length_cons, List.length_nil, Nat.zero_add, Nat.add_zero, Nat.mul_one, and_self, beq_iff_eq, Bool.not_true, Bool.not_false, Bool.not_eq_false', Bool.cond_false_right, Bool.and_eq_true, imp_self, Bool.not_eq_true, Bool.cond_true_left, Bool.or_eq_true]
  simp only [Bool.or_eq_false_iff, decide_eq_false_iff_not]
  refine ⟨fun h => ?_, fun hne => ?_⟩
  . have : l = [] := List.eq_nil_of_length_eq_zero (by omega)
    subst this
    exact ⟨rfl, rfl⟩
  have hl : 1 ≤ l.length := by omega
  have hD : decD l = (((udec l 0).1 : Int), ((udec l 0).2 : Int)) := by rw [decD, if_neg (fun e => by rw [e] at hl; simp at hl)]
  have hu : udec l 0 = Lib.decodeN l.length (l.getD 0 0).toNat (l.getD 1 0).toNat (l.getD 2 0).toNat (l.getD 3 0).toNat := rfl
  rw [hD, hu]
  obtain ⟨b0, e0, g0⟩ := nat_of l hw 0
  obtain ⟨b1, e1, g1⟩ := nat_of l hw 1
  obtain ⟨b2, e2, g2⟩ := nat_of l hw 2
  obtain ⟨b3, e3, g3⟩ := nat_of l hw 3
  rw [e0, e1, e2, e3, Int.toNat_natCast, Int.toNat_natCast, Int.toNat_natCast, Int.toNat_natCast, first_get b0 g0]
  obtain ⟨f1, f2, f3⟩ := first_sz b0
  generalize hn : l.length = n at *
  refine ⟨⟨by decide, by omega⟩, ⟨by omega, by omega⟩, fun hF => ?_, fun hF => ?_⟩
  . have hF : 240 ≤ Lib.firstT b0 := by omega
    refine ⟨by decide, by decide, ⟨by decide, by omega⟩, ?_⟩
    rw [mask_eq b0 g0 hF]
    rcases f2 hF with h | h
    . rw [if_pos h, Lib.ascii_eq _ _ _ _ _ h]; exact ⟨rfl, rfl⟩
    . rw [if_neg (by omega), Lib.bad_eq _ _ _ _ _ g0 h]; exact ⟨rfl, rfl⟩
  . have hF : Lib.firstT b0 < 240 := by omega
    obtain ⟨s2, s4⟩ := f3 hF
    have hs := Lib.slow_eq n b0 b1 b2 b3 (by omega) g1 g2 g3 hF
    have hm : IntKind.i64.wrap (IntKind.u8.wrap ↑(BitVec.ofInt 8 (Lib.firstT b0 : Int) &&& BitVec.ofInt 8 7).toNat) = ((Lib.firstT b0 % 8 : Nat) : Int) := by
      rw [and_7 _ (by omega), wrapK _ (by omega) (by omega)]
    have hfd : (Lib.firstT b0 : Int).fdiv (2 ^ 4) = ((Lib.firstT b0 / 16 : Nat) : Int) := by
      rw [Int.fdiv_eq_ediv_of_nonneg _ (by decide)]
      omega
    have hac : Lib.firstT b0 / 16 < 16 := by omega
    rw [hm, hfd, Int.toNat_natCast, acc_get _ hac, ← hs]
    generalize Lib.firstT b0 % 8 = sz at *
    generalize Lib.firstT b0 / 16 = ac at *
    simp only
    refine ⟨by decide, ⟨by omega, by omega⟩, by decide, fun h => ?_, fun h => ⟨⟨by decide, by omega⟩, fun hb => ?_, fun hb => ⟨fun hz => ?_, fun hz => ⟨⟨by decide, by omega⟩, fun hc => ?_, fun hc => ⟨fun hz3 => ?_, fun hz3 => ⟨⟨by decide, by omega⟩, fun hd => ?_, fun hd => ?_⟩⟩⟩⟩⟩⟩
    . rw [Lib.slowN, if_pos (by omega)]; exact ⟨rfl, rfl⟩
    . rw [Lib.slowN, if_neg (by omega), if_pos (by omega)]; exact ⟨rfl, rfl⟩
    . rw [Lib.slowN, if_neg (by omega), if_neg (by omega), if_pos (by omega)]
      refine ⟨by decide, ?_, rfl⟩
      rw [and_31 b0 g0, and_63 b1 g1, or2 _ _ (by omega) (by omega)]
    . rw [Lib.slowN, if_neg (by omega), if_neg (by omega), if_neg (by omega), if_pos (by omega)]; exact ⟨rfl, rfl⟩
    . rw [Lib.slowN, if_neg (by omega), if_neg (by omega), if_neg (by omega), if_neg (by omega), if_pos (by omega)]
      refine ⟨by decide, by decide, ?_, rfl⟩
      rw [and_15 b0 g0, and_63 b1 g1, and_63 b2 g2, or3 _ _ _ (by omega) (by omega) (by omega)]
    . rw [Lib.slowN, if_neg (by omega), if_neg (by omega), if_neg (by omega), if_neg (by omega), if_neg (by omega), if_pos (by omega)]; exact ⟨rfl, rfl⟩
    . rw [Lib.slowN, if_neg (by omega), if_neg (by omega), if_neg (by omega), if_neg (by omega), if_neg (by omega), if_neg (by omega)]
      refine ⟨by decide, by decide, by decide, ?_, rfl⟩
      rw [and_7 b0 g0, and_63 b1 g1, and_63 b2 g2, and_63 b3 g3, or4 _ _ _ _ (by omega) (by omega) (by omega) (by omega)]
theorem h100 : c_utf8_decodeRuneInStringSlow.ok Tryz.prog GL 100 := con_ok (H := {}) (mkEnv_ok (gl := GL) (l := []) (q := []) (d := []) _ tyOk (by kernel_rfl) trivial trivial trivial) (by kernel_rfl) (by kernel_rfl) (Eq.mp e100 k100)
def t79 : Prop :=
  ∀ (x : q6), (q88 x) -> True -> (decide (q96 x) = true -> True) /\ (decide (q96 x) = true -> (decide (q96 x) == true) = true /\ (q84 x) /\ True) /\ (decide (q96 x) = true -> (decide (q96 x)
  == true) = true /\ True) /\ (decide (q96 x) = true -> (decide (q96 x) == true) = true) /\ ((q95 x) = true -> (q84 x) /\ IntKind.wrap IntKind.i32 (q86 x) = (decD x.1).1 /\ q92 = (decD
  x.1).2) /\ ((q95 x) = false -> True /\ (∀ (y : q7), (Kd.wf (Kd.int IntKind.i32) y.1 /\ wiZ y.2.1 /\ True) -> y.1 = (decD x.1).1 /\ y.2.1 = (decD x.1).2 -> y.1 = (decD x.1).1 /\ y.2.1 =
  (decD x.1).2) /\ True)
theorem e79 : t79 = Con.vc c_utf8_DecodeRuneInString GL (mkEnv ty [(100, conSem c_utf8_decodeRuneInStringSlow)] [] [] [0, 2, 3, 10]) {} Tryz.f79.ntmps Tryz.f79.results.toList (bodyOf Tryz.f79) := by kernel_rfl
theorem k79 : t79 := by
  unfold t79
  delta q6 q88 q96 q84 q95 q86 q92 q7 wiZ wsZ q452 lnZ q477
  rintro ⟨l, _⟩ hx hp
  have hw : Kd.wf Kd.str l := hx.1
  try dsimp +instances only [dft_int, dft_sl, dft_str]
  simp only [true_and, and_true, eq_self_iff_true, implies_true, reduceCtorEq, false_implies, true_implies, decide_eq_true_eq, decide_eq_false_iff_not, beq_self_eq_true, Bool.not_eq_true', ne_eq, Decidable.not_not, List.nil_append, List.length_singleton, List.length_cons, List.length_nil, Nat.zero_add, Nat.add_zero, Nat.mul_one, and_self, beq_iff_eq, Bool.not_true, Bool.not_false, Bool.not_eq_false', Bool.cond_false_right, Bool.and_eq_true, imp_self, Bool.not_eq_true, Bool.cond_true_left, Bool.or_eq_true]
  rw [bs_nil]
  refine ⟨fun h => ⟨h, by decide, by have := List.length_pos_iff.2 h; omega⟩, fun h => ⟨⟨by decide, by have := List.length_pos_iff.2 h.1; omega⟩, ?_⟩⟩
  have hb := str_get hw 0
  have hu := udec_ascii l 0 (by omega)
  rw [decD, if_neg h.1, hu]
  refine ⟨?_, rfl⟩
  show _ = (((l.getD 0 0).toNat : Nat) : Int)
  have h2 := h.2
  generalize l.getD 0 0 = b at hb h2 ⊢
  simp [IntKind.wrap, IntKind.signed, IntKind.bits]
  omega
theorem h79 : c_utf8_DecodeRuneInString.ok Tryz.prog GL 79 := con_ok (H := {}) (mkEnv_ok (gl := GL) (l := [(100, conSem c_utf8_decodeRuneInStringSlow)]) (q := []) (d := []) _ tyOk (by kernel_rfl) ⟨h100.call, trivial⟩ trivial trivial) (by kernel_rfl) (by kernel_rfl) (Eq.mp e79 k79)
def t155 : Prop :=
  ∀ (x : q6), (q88 x) -> True -> ∃ (I : Int × Unit -> Nat × Unit -> Prop), ∃ (μ : Int × Unit -> Nat × Unit -> Nat), (x.1 = x.1 /\ x.1 = x.1 /\ I (q56, ()) (q91, ())) /\ ∀ (y : q1) (z : Nat ×
  Unit), (q52 y) -> True -> I y z -> (z.1 < List.length x.1 -> (decide ((↑(udec x.1 z.1).1 : Int) ≠ (65533 : Int)) = true -> x.1 = x.1 /\ x.1 = x.1 /\ I (y.1, ()) (z.1 + (udec x.1 z.1).2, ())
  /\ μ (y.1, ()) (z.1 + (udec x.1 z.1).2, ()) < μ y z) /\ (decide ((↑(udec x.1 z.1).1 : Int) ≠ (65533 : Int)) = false -> (q56 <= (↑z.1 : Int) /\ (↑z.1 : Int) <= (lnZ x.1)) /\ True /\ (∀ (y_1
  : q7), (Kd.wf (Kd.int IntKind.i32) y_1.1 /\ wiZ y_1.2.1 /\ True) -> y_1.1 = (decD (List.drop (Int.toNat (↑z.1 : Int)) x.1)).1 /\ y_1.2.1 = (decD (List.drop (Int.toNat (↑z.1 : Int)) x.1)).2
  -> (decide (y_1.2.1 = q92) = true -> (↑z.1 : Int) = (↑(vld x.1 q91) : Int)) /\ (decide (y_1.2.1 = q92) = false -> x.1 = x.1 /\ x.1 = x.1 /\ I (y.1, ()) (z.1 + (udec x.1 z.1).2, ()) /\ μ
  (y.1, ()) (z.1 + (udec x.1 z.1).2, ()) < μ y z)) /\ True)) /\ (List.length x.1 <= z.1 -> (lnZ x.1) = (↑(vld x.1 q91) : Int))
theorem e155 : t155 = Con.vc c_text_Valid GL (mkEnv ty [(79, conSem c_utf8_DecodeRuneInString)] [] [] [0, 2, 3, 4, 6, 8, 9, 10, 14, 23]) {} Tryz.f155.ntmps Tryz.f155.results.toList (bodyOf Tryz.f155) := by kernel_rfl
theorem k155 : t155 := by
  unfold t155
  delta q6 q88 q56 q91 q1 q52 lnZ q7 wiZ q92 wsZ
  rintro ⟨l, _⟩ hx hp
  have hw : Kd.wf Kd.str l := hx.1
  try dsimp +instances only [dft_int, dft_sl, dft_str]
  simp only [true_and, and_true, eq_self_iff_true, implies_true, reduceCtorEq, false_implies, true_implies, decide_eq_true_eq, decide_eq_false_iff_not, beq_self_eq_true, Bool.not_eq_true', ne_eq, Decidable.not_not, List.nil_append, List.length_singleton, List.length_cons, List.length_nil, Nat.zero_add, Nat.add_zero, Nat.mul_one, and_self, beq_iff_eq, Bool.not_true, Bool.not_false, Bool.not_eq_false', Bool.cond_false_right, Bool.and_eq_true, imp_self, Bool.not_eq_true, Bool.cond_true_left, Bool.or_eq_true]
  refine ⟨fun _ z => z.1 ≤ l.length ∧ vld l 0 = vld l z.1, fun _ z => l.length - z.1, ⟨Nat.zero_le _, rfl⟩, ?_⟩
  rintro ⟨r, _⟩ ⟨i, _⟩ _ ⟨h0, h1⟩
  simp only at h0 h1 ⊢
  refine ⟨fun hlt => ?_, fun hge => ?_⟩
  . have hu := udec_w l i hlt
    have go : ¬ ((udec l i).1 = 65533 ∧ (udec l i).2 = 1) → (i + (udec l i).2 ≤ l.length ∧ vld l 0 = vld l (i + (udec l i).2)) ∧ l.length - (i + (udec l i).2) < l.length - i := fun h => by
      have hc : chw l i = (udec l i).2 := by rw [chw, if_neg h]
      have := vld_step hlt (by rw [hc]; omega)
      rw [hc] at this
      exact ⟨⟨hu.2.2, by rw [h1, this]⟩, by omega⟩
    refine ⟨fun h => go (fun hc => h (by omega)), fun h => ⟨⟨by omega, by omega⟩, ?_⟩⟩
    rintro ⟨a, b, _⟩ _ ⟨ea, eb⟩
    simp only at ea eb ⊢
    rw [Int.toNat_natCast, dec_drop l i hlt] at ea eb
    simp only at ea eb
    refine ⟨fun hb => ?_, fun hb => go (fun hc => hb (by omega))⟩
    rw [h1, vld_stop (fun hc => hc.2 (by rw [chw, if_pos (by omega)]))]
  . rw [h1, vld_stop (fun hc => by omega)]
    omega
theorem h155 : c_text_Valid.ok Tryz.prog GL 155 := con_ok (H := {}) (mkEnv_ok (gl := GL) (l := [(79, conSem c_utf8_DecodeRuneInString)]) (q := []) (d := []) _ tyOk (by kernel_rfl) ⟨h79.call, trivial⟩ trivial trivial) (by kernel_rfl) (by kernel_rfl) (Eq.mp e155 k155)
def t153 : Prop :=
  ∀ (x : List Int × Int × Int × Unit), (wsZ x.1 /\ wiZ x.2.1 /\ wiZ x.2.2.1 /\ True) -> List.length x.1 <= q103 /\ q56 <= x.2.1 /\ x.2.1 <= (1000000000 : Int) /\ q56 <= x.2.2.1 /\ x.2.2.1 <=
  (3 : Int) -> ∃ (I : q8), ∃ (μ : q9), (x.1 = x.1 /\ x.2.1 = x.2.1 /\ x.2.2.1 = x.2.2.1 /\ I (q56, false, ()) ()) /\ ∀ (y : q10) (z : Unit), (q102 y) -> True -> I y z -> (decide (y.1 <
  x.2.2.1) = true -> (decide (q454 x y) = false -> True) /\ (decide (q454 x y) = false -> True) /\ (decide (q454 x y) = false -> True) /\ (decide (q454 x y) = false -> (q101 x y) = true /\
  (q101 x y) = true /\ True) /\ (decide (q454 x y) = false -> (q101 x y) = true /\ (q101 x y) = true /\ (q56 <= wrZ (x.2.1 + y.1) /\ wrZ (x.2.1 + y.1) < (lnZ x.1)) /\ True) /\ (decide (q454 x
  y) = false -> (q101 x y) = true /\ True) /\ (decide (q454 x y) = false -> (q101 x y) = true) /\ (q98 x y) /\ (q98 x y) /\ (q98 x y) /\ ((q100 x y) = false -> (q99 x y) = true /\ (q99 x y) =
  true /\ True) /\ ((q100 x y) = false -> (q99 x y) = true /\ (q99 x y) = true /\ (q56 <= wrZ (x.2.1 + y.1) /\ wrZ (x.2.1 + y.1) < (lnZ x.1)) /\ True) /\ ((q100 x y) = false -> (q99 x y) =
  true /\ True) /\ ((q100 x y) = false -> (q99 x y) = true) /\ ((q97 x y) = true -> false = moreD x.1 (Int.toNat x.2.1) (Int.toNat x.2.2.1)) /\ ((q97 x y) = false -> x.1 = x.1 /\ x.2.1 =
  x.2.1 /\ x.2.2.1 = x.2.2.1 /\ I (wrZ (q104 y), y.2.1, ()) () /\ μ (wrZ (q104 y), y.2.1, ()) () < μ y z)) /\ (decide (y.1 < x.2.2.1) = false -> true = moreD x.1 (Int.toNat x.2.1) (Int.toNat
  x.2.2.1))
theorem e153 : t153 = Con.vc c_r05_more GL (mkEnv ty [] [] [] [0, 1, 2, 6, 7, 10, 34]) {} Tryz.f153.ntmps Tryz.f153.results.toList (bodyOf Tryz.f153) := by kernel_rfl
theorem k153 : t153 := by
  unfold t153
  delta wsZ wiZ q103 q56 q8 q9 q10 q102 q454 q101 wrZ lnZ q98 q100 q99 q97 q104 wbZ q502 q452 q491 q557
  rintro ⟨l, m, n, _⟩ hx ⟨hp1, hp2, hp3, hp4, hp5⟩
  have hp1 : l.length ≤ 1000000000 := hp1
  have hp2 : 0 ≤ m := hp2
  have hp3 : m ≤ 1000000000 := hp3
  have hp4 : 0 ≤ n := hp4
  have hp5 : n ≤ 3 := hp5
  try dsimp +instances only [dft_int, dft_sl, dft_str]
  simp only [true_and, and_true, eq_self_iff_true, implies_true, reduceCtorEq, false_implies, true_implies, decide_eq_true_eq, decide_eq_false_iff_not, beq_self_eq_true, Bool.not_eq_true', ne_eq, Decidable.not_not, List.nil_append, List.length_singleton, List.length_cons, List.length_nil, Nat.zero_add, Nat.add_zero, Nat.mul_one, and_self, beq_iff_eq, Bool.not_true, Bool.not_false, Bool.not_eq_false', Bool.cond_false_right, Bool.and_eq_true, imp_self, Bool.not_eq_true, Bool.cond_true_left, Bool.or_eq_true]
  refine ⟨fun y _ => 0 ≤ y.1 ∧ y.1 ≤ n ∧ ∀ j, j < y.1.toNat → m.toNat + j < l.length ∧ 128 ≤ l.getD (m.toNat + j) 0 ∧ l.getD (m.toNat + j) 0 ≤ 191, fun y _ => (n - y.1).toNat, ⟨by omega, hp4, fun j hj => by simp at hj⟩, ?_⟩
  rintro ⟨i, b, _⟩ z _ ⟨h0, h1, h2⟩
  simp only at h0 h1 h2 ⊢
  have hw : IntKind.wrap .i64 (m + i) = m + i := wrapK _ (by omega) (by omega)
  have hw2 : IntKind.wrap .i64 (i + 1) = i + 1 := wrapK _ (by omega) (by omega)
  have e : (m + i).toNat = m.toNat + i.toNat := by omega
  refine ⟨fun hlt => ⟨fun h => ⟨h, h, by rw [hw]; omega, by omega⟩, fun h => ⟨h, h, by rw [hw]; omega, ?_⟩, fun h => ?_, fun h => ?_⟩, fun hge => ?_⟩
  . rcases Bool.or_eq_false_iff.1 h with ⟨h3, _⟩
    have := of_decide_eq_false h3
    omega
  . symm
    rw [moreD, List.all_eq_false]
    refine ⟨i.toNat, by simp; omega, ?_⟩
    rw [hw, e] at h
    simp only [decide_eq_true_eq]
    omega
  . rcases Bool.or_eq_false_iff.1 h with ⟨h3, h4⟩
    rcases Bool.or_eq_false_iff.1 h3 with ⟨h5, h6⟩
    have h5 := of_decide_eq_false h5
    have h6 := of_decide_eq_false h6
    have h4 := of_decide_eq_false h4
    rw [hw] at h5 h6 h4
    rw [e] at h6 h4
    rw [hw2]
    refine ⟨⟨by omega, by omega, fun j hj => ?_⟩, by omega⟩
    by_cases hji : j < i.toNat
    . exact h2 j hji
    . rw [show j = i.toNat by omega]
      omega
  . symm
    rw [moreD, List.all_eq_true]
    intro j hj
    rw [decide_eq_true_eq]
    exact h2 j (by simp at hj; omega)
theorem h153 : c_r05_more.ok Tryz.prog GL 153 := con_ok (H := {}) (mkEnv_ok (gl := GL) (l := []) (q := []) (d := []) _ tyOk (by kernel_rfl) trivial trivial trivial) (by kernel_rfl) (by kernel_rfl) (Eq.mp e153 k153)
def t139 : Prop :=
  ∀ (x : q0), (wsZ x.1 /\ wiZ x.2.1 /\ True) -> List.length x.1 <= q103 /\ q56 <= x.2.1 /\ x.2.1 < (lnZ x.1) -> (q56 <= x.2.1 /\ x.2.1 < (lnZ x.1)) /\ (decide (wrZ (q111 x) < q115) = true ->
  q92 = (q112 x)) /\ (decide (wrZ (q111 x) < q115) = false -> (decide (q110 x) = false -> True) /\ (decide (q110 x) = false -> (decide (q110 x) == false) = true /\ True) /\ (decide (q110 x) =
  false -> (decide (q110 x) == false) = true) /\ ((q108 x) = true -> q56 = (q112 x)) /\ ((q108 x) = false -> ∃ (J : q11), ((decide ((224 : Int) <= wrZ (q111 x)) = true -> Value.bool false =
  Value.bool false /\ Value.bool false = Value.bool false /\ wrZ (q111 x) = wrZ (q111 x) /\ q56 = q56 /\ x.1 = x.1 /\ x.2.1 = x.2.1 /\ J (wrZ (wrZ (q111 x) - (224 : Int)), q94, ()) ()) /\
  (decide ((224 : Int) <= wrZ (q111 x)) = false -> Value.bool false = Value.bool false /\ Value.bool false = Value.bool false /\ wrZ (q111 x) = wrZ (q111 x) /\ q56 = q56 /\ x.1 = x.1 /\ x.2.1
  = x.2.1 /\ J (wrZ (wrZ (q111 x) - (192 : Int)), q92, ()) ())) /\ ∀ (u : q7) (z : Unit), (q113 u) -> True -> J u z -> ∃ (J : q11), ((decide ((240 : Int) <= wrZ (q111 x)) = true -> Value.bool
  false = Value.bool false /\ Value.bool false = Value.bool false /\ wrZ (q111 x) = wrZ (q111 x) /\ q56 = q56 /\ x.1 = x.1 /\ x.2.1 = x.2.1 /\ J (wrZ (wrZ (q111 x) - (240 : Int)), (3 : Int),
  ()) ()) /\ (decide ((240 : Int) <= wrZ (q111 x)) = false -> Value.bool false = Value.bool false /\ Value.bool false = Value.bool false /\ wrZ (q111 x) = wrZ (q111 x) /\ q56 = q56 /\ x.1 =
  x.1 /\ x.2.1 = x.2.1 /\ J (u.1, u.2.1, ()) ())) /\ ∀ (u : q7) (z : Unit), (q113 u) -> True -> J u z -> (List.length x.1 <= q103 /\ q56 <= wrZ (x.2.1 + q92) /\ wrZ (x.2.1 + q92) <=
  (1000000000 : Int) /\ q56 <= u.2.1 /\ u.2.1 <= (3 : Int)) /\ (∀ (y : q4), (q67 y) -> y.1 = moreD x.1 (Int.toNat (wrZ (x.2.1 + q92))) (Int.toNat u.2.1) -> ((!y.1) = true -> q56 = (q112 x))
  /\ ((!y.1) = false -> ∃ (I : q11), ∃ (μ : q12), (Value.bool false = Value.bool false /\ u.2.1 = u.2.1 /\ Value.bool false = Value.bool false /\ Value.bool false = Value.bool false /\ wrZ
  (q111 x) = wrZ (q111 x) /\ q56 = q56 /\ x.1 = x.1 /\ x.2.1 = x.2.1 /\ I (q92, u.1, ()) ()) /\ ∀ (y : q7) (z : Unit), (q113 y) -> True -> I y z -> (decide (y.1 <= u.2.1) = true -> (q56 <=
  wrZ (x.2.1 + y.1) /\ wrZ (x.2.1 + y.1) < (lnZ x.1)) /\ Value.bool false = Value.bool false /\ u.2.1 = u.2.1 /\ Value.bool false = Value.bool false /\ Value.bool false = Value.bool false /\
  wrZ (q111 x) = wrZ (q111 x) /\ q56 = q56 /\ x.1 = x.1 /\ x.2.1 = x.2.1 /\ I (wrZ (q114 y), wrZ (wrZ (wrZ (q455 * y.2.1) + wrZ (List.getD x.1 (Int.toNat (wrZ (x.2.1 + y.1))) q56)) - q115),
  ()) () /\ μ (wrZ (q114 y), wrZ (wrZ (wrZ (q455 * y.2.1) + wrZ (List.getD x.1 (Int.toNat (wrZ (x.2.1 + y.1))) q56)) - q115), ()) () < μ y z) /\ (decide (y.1 <= u.2.1) = false -> ∃ (J : q13),
  ((decide (u.2.1 = q94) = true -> Value.bool false = Value.bool false /\ y.1 = y.1 /\ Value.bool false = Value.bool false /\ y.2.1 = y.2.1 /\ u.2.1 = u.2.1 /\ Value.bool false = Value.bool
  false /\ Value.bool false = Value.bool false /\ wrZ (q111 x) = wrZ (q111 x) /\ q56 = q56 /\ x.1 = x.1 /\ x.2.1 = x.2.1 /\ J ((2048 : Int), ()) ()) /\ (decide (u.2.1 = q94) = false ->
  Value.bool false = Value.bool false /\ y.1 = y.1 /\ Value.bool false = Value.bool false /\ y.2.1 = y.2.1 /\ u.2.1 = u.2.1 /\ Value.bool false = Value.bool false /\ Value.bool false =
  Value.bool false /\ wrZ (q111 x) = wrZ (q111 x) /\ q56 = q56 /\ x.1 = x.1 /\ x.2.1 = x.2.1 /\ J (q115, ()) ())) /\ ∀ (u_1 : q1) (z : Unit), (q52 u_1) -> True -> J u_1 z -> ∃ (J : q13),
  ((decide (u.2.1 = (3 : Int)) = true -> Value.bool false = Value.bool false /\ y.1 = y.1 /\ Value.bool false = Value.bool false /\ y.2.1 = y.2.1 /\ u.2.1 = u.2.1 /\ Value.bool false =
  Value.bool false /\ Value.bool false = Value.bool false /\ wrZ (q111 x) = wrZ (q111 x) /\ q56 = q56 /\ x.1 = x.1 /\ x.2.1 = x.2.1 /\ J ((65536 : Int), ()) ()) /\ (decide (u.2.1 = (3 : Int))
  = false -> Value.bool false = Value.bool false /\ y.1 = y.1 /\ Value.bool false = Value.bool false /\ y.2.1 = y.2.1 /\ u.2.1 = u.2.1 /\ Value.bool false = Value.bool false /\ Value.bool
  false = Value.bool false /\ wrZ (q111 x) = wrZ (q111 x) /\ q56 = q56 /\ x.1 = x.1 /\ x.2.1 = x.2.1 /\ J (u_1.1, ()) ())) /\ ∀ (u_2 : q1) (z : Unit), (q52 u_2) -> True -> J u_2 z -> (decide
  (y.2.1 < u_2.1) = false -> True) /\ (decide (y.2.1 < u_2.1) = false -> (decide (y.2.1 < u_2.1) == false) = true /\ True) /\ (decide (y.2.1 < u_2.1) = false -> (decide (y.2.1 < u_2.1) ==
  false) = true) /\ ((q109 y u_2) = false -> True) /\ ((q109 y u_2) = false -> ((q109 y u_2) == false) = true /\ True) /\ ((q109 y u_2) = false -> True) /\ ((q107 y u_2) = true -> decide
  ((55296 : Int) <= y.2.1) = true -> True) /\ ((q107 y u_2) = true -> decide ((55296 : Int) <= y.2.1) = true -> (q105 y u_2) = true /\ True) /\ ((q109 y u_2) = false -> (q107 y u_2) = true /\
  (decide ((55296 : Int) <= y.2.1) = true -> (q105 y u_2) = true) /\ True) /\ ((q109 y u_2) = false -> ((q109 y u_2) == false) = true) /\ ((q106 y u_2) = true -> q56 = (q112 x)) /\ ((q106 y
  u_2) = false -> wrZ (u.2.1 + q92) = (q112 x))))) /\ True))
theorem e139 : t139 = Con.vc c_r05_character GL (mkEnv ty [(153, conSem c_r05_more)] [] [] [0, 1, 4, 5, 6, 7, 8, 9, 15, 21, 25, 29, 37, 40, 54, 56, 71]) {joins := [9,11,20,22]} Tryz.f139.ntmps Tryz.f139.results.toList (bodyOf Tryz.f139) := by kernel_rfl
theorem k139 : t139 := by
  unfold t139
  delta q0 wsZ wiZ q103 q56 lnZ wrZ q111 q115 q92 q112 q110 q108 q11 q94 q7 q113 q4 q67 q12 q114 q455 q13 q1 q52 q109 q107 q105 q106 q452 wbZ q491 q503
  rintro ⟨l, p, _⟩ hx hp
  have hw : Kd.wf Kd.str l := hx.1
  obtain ⟨hl, hp0, hp1⟩ := hp
  simp only at hp0 hp1 hl
  try dsimp +instances only [dft_int, dft_sl, dft_str]
  simp only [true_and, and_true, eq_self_iff_true, implies_true, reduceCtorEq, false_implies, true_implies, decide_eq_true_eq, decide_eq_false_iff_not, beq_self_eq_true, Bool.not_eq_true', ne_eq, Decidable.not_not, List.nil_append, List.length_singleton, List.length_cons, List.length_nil, Nat.zero_add, Nat.add_zero, Nat.mul_one, and_self, beq_iff_eq, Bool.not_true, Bool.not_false, Bool.not_eq_false', Bool.cond_false_right, Bool.and_eq_true, imp_self, Bool.not_eq_true, Bool.cond_true_left, Bool.or_eq_true]
  obtain ⟨i, rfl⟩ : ∃ i : Nat, p = i := ⟨p.toNat, by omega⟩
  rw [Int.toNat_natCast]
  have hi : i < l.length := by omega
  have hc := str_get hw i
  have hwc : IntKind.wrap .i64 (l.getD i 0) = l.getD i 0 := wrapK _ (by omega) (by omega)
  have hw1 : IntKind.wrap .i64 ((i : Int) + 1) = i + 1 := wrapK _ (by omega) (by omega)
  have e1' : ((i : Int) + 1).toNat = i + 1 := by omega
  rw [hwc, hw1, e1', wrapK (l.getD i 0 - 224) (by omega) (by omega), wrapK (l.getD i 0 - 192) (by omega) (by omega), wrapK (l.getD i 0 - 240) (by omega) (by omega)]
  refine ⟨⟨by omega, by omega⟩, fun h => ?_, fun hge => ⟨fun h => ?_, fun h => ?_⟩⟩
  . obtain ⟨b0, e0, g0⟩ := nat_of l hw i
    obtain ⟨b1, e1, g1⟩ := nat_of l hw (i + 1)
    obtain ⟨b2, e2, g2⟩ := nat_of l hw (i + 2)
    obtain ⟨b3, e3, g3⟩ := nat_of l hw (i + 3)
    rw [chw_at l i e0 e1 e2 e3, dec_low (by omega)]; rfl
  . obtain ⟨b0, e0, g0⟩ := nat_of l hw i
    obtain ⟨b1, e1, g1⟩ := nat_of l hw (i + 1)
    obtain ⟨b2, e2, g2⟩ := nat_of l hw (i + 2)
    obtain ⟨b3, e3, g3⟩ := nat_of l hw (i + 3)
    rw [chw_at l i e0 e1 e2 e3, dec_bad (by omega)]; rfl
  have h0 : 192 ≤ l.getD i 0 ∧ l.getD i 0 ≤ 247 := by
    simp only [Bool.or_eq_false_iff, decide_eq_false_iff_not] at h
    omega
  refine ⟨fun u _ => u.2.1 = 1 ∧ l.getD i 0 < 224 ∧ u.1 = l.getD i 0 - 192 ∨ u.2.1 = 2 ∧ 224 ≤ l.getD i 0 ∧ u.1 = l.getD i 0 - 224, ⟨fun h => .inr ⟨rfl, h, rfl⟩, fun h => .inl ⟨rfl, by omega, rfl⟩⟩, ?_⟩
  rintro ⟨v, n, _⟩ _ _ hJ
  refine ⟨fun u _ => u.2.1 = 1 ∧ l.getD i 0 < 224 ∧ u.1 = l.getD i 0 - 192 ∨ u.2.1 = 2 ∧ 224 ≤ l.getD i 0 ∧ l.getD i 0 < 240 ∧ u.1 = l.getD i 0 - 224 ∨ u.2.1 = 3 ∧ 240 ≤ l.getD i 0 ∧ u.1 = l.getD i 0 - 240, ⟨fun h => .inr (.inr ⟨rfl, h, rfl⟩), fun h => ?_⟩, ?_⟩
  . simp only at hJ ⊢
    omega
  clear hJ
  rintro ⟨v, n, _⟩ _ _ hJ
  simp only at hJ ⊢
  refine ⟨⟨hl, by omega, by omega, by omega, by omega⟩, ?_⟩
  rintro ⟨m, _⟩ _ em
  simp only at em ⊢
  refine ⟨fun h => ?_, fun h => ?_⟩
  . rw [chw_mid hw hi h0 (by omega) (em.symm.trans h)]; rfl
  have hm := em.symm.trans h
  have hm2 := (more_iff l (i + 1) n.toNat).1 hm
  refine ⟨fun y _ => 1 ≤ y.1 ∧ y.1 ≤ n + 1 ∧ y.2.1 = valK v (l.getD (i + 1) 0) (l.getD (i + 2) 0) (l.getD (i + 3) 0) y.1, fun y _ => (n + 1 - y.1).toNat, ⟨by omega, by omega, rfl⟩, ?_⟩
  rintro ⟨k, a, _⟩ _ _ ⟨k1, k2, ek⟩
  simp only at k1 k2 ek ⊢
  refine ⟨fun hk => ?_, fun hk => ?_⟩
  . obtain ⟨m1, m2, m3⟩ := hm2 (k - 1).toNat (by omega)
    have ei : i + 1 + (k - 1).toNat = ((i : Int) + k).toNat := by omega
    rw [ei] at m1 m2 m3
    have hbd : ∀ j, 0 ≤ l.getD j 0 ∧ l.getD j 0 ≤ 255 := str_get hw
    have b1 := hbd (i + 1)
    have b2 := hbd (i + 2)
    have b3 := hbd (i + 3)
    have ha : -100000 ≤ a ∧ a ≤ 10000000 := by
      rw [ek]
      unfold valK
      split
      . omega
      . split
        . omega
        . split <;> omega
    have e1 : IntKind.wrap .i64 ((i : Int) + k) = i + k := wrapK _ (by omega) (by omega)
    have e2 : IntKind.wrap .i64 (k + 1) = k + 1 := wrapK _ (by omega) (by omega)
    have e3 : IntKind.wrap .i64 (64 * a) = 64 * a := wrapK _ (by omega) (by omega)
    have e4 : IntKind.wrap .i64 (l.getD ((i : Int) + k).toNat 0) = l.getD ((i : Int) + k).toNat 0 := wrapK _ (by omega) (by omega)
    rw [e1, e2, e3, e4, wrapK (64 * a + l.getD ((i : Int) + k).toNat 0) (by omega) (by omega), wrapK (64 * a + l.getD ((i : Int) + k).toNat 0 - 128) (by omega) (by omega)]
    refine ⟨⟨by omega, by omega⟩, ⟨by omega, by omega, ?_⟩, by omega⟩
    rcases (show k = 1 ∨ k = 2 ∨ k = 3 by omega) with rfl | rfl | rfl
    . rw [show ((i : Int) + 1).toNat = i + 1 by omega, ek]; rfl
    . rw [show ((i : Int) + 2).toNat = i + 2 by omega, ek]; rfl
    . rw [show ((i : Int) + 3).toNat = i + 3 by omega, ek]; rfl
  . obtain rfl : k = n + 1 := by omega
    refine ⟨fun u _ => n = 2 ∧ u.1 = 2048 ∨ n ≠ 2 ∧ u.1 = 128, ⟨fun h => .inl ⟨h, rfl⟩, fun h => .inr ⟨h, rfl⟩⟩, ?_⟩
    rintro ⟨b, _⟩ _ _ hJ1
    refine ⟨fun u _ => n = 1 ∧ u.1 = 128 ∨ n = 2 ∧ u.1 = 2048 ∨ n = 3 ∧ u.1 = 65536, ⟨fun h => .inr (.inr ⟨h, rfl⟩), fun h => by simp only at hJ1 ⊢; omega⟩, ?_⟩
    clear hJ1
    rintro ⟨b, _⟩ _ _ hJ1
    simp only at hJ1 ⊢
    have key := chw_end hw hi (n := n) (v0 := v) (least := b) h0 (by omega) hm
    rw [← ek] at key
    rw [key, wrapK (n + 1) (by omega) (by omega)]
    refine ⟨fun h1 h2 => ⟨h1, h2⟩, fun h1 => ⟨h1, fun h2 => ⟨h1, h2⟩⟩, fun h1 => ?_, fun h1 => ?_⟩
    . rw [if_pos (by omega)]
    . simp only [Bool.or_eq_false_iff, Bool.and_eq_false_iff, decide_eq_false_iff_not] at h1
      rw [if_neg (by omega)]
theorem h139 : c_r05_character.ok Tryz.prog GL 139 := con_ok (H := {joins := [9,11,20,22]}) (mkEnv_ok (gl := GL) (l := [(153, conSem c_r05_more)]) (q := []) (d := []) _ tyOk (by kernel_rfl) ⟨h153.call, trivial⟩ trivial trivial) (by kernel_rfl) (by kernel_rfl) (Eq.mp e139 k139)
def t126 : Prop :=
  ∀ (x : q6), (q88 x) -> List.length x.1 <= q103 -> ∃ (I : q11), ∃ (μ : q12), (x.1 = x.1 /\ I (q56, q56, ()) ()) /\ ∀ (y : q7) (z : Unit), (q113 y) -> True -> I y z -> (decide (y.1 < (lnZ
  x.1)) = true -> (List.length x.1 <= q103 /\ q56 <= y.1 /\ y.1 < (lnZ x.1)) /\ (∀ (y_1 : q1), (q52 y_1) -> y_1.1 = (↑(chw x.1 (Int.toNat y.1)) : Int) -> (decide (q116 y_1) = true -> y.1 =
  (↑(vld x.1 q91) : Int)) /\ (decide (q116 y_1) = false -> x.1 = x.1 /\ I (wrZ (y.1 + y_1.1), y.2.1, ()) () /\ μ (wrZ (y.1 + y_1.1), y.2.1, ()) () < μ y z)) /\ True) /\ (decide (y.1 < (lnZ
  x.1)) = false -> y.1 = (↑(vld x.1 q91) : Int))
theorem e126 : t126 = Con.vc c_r05_Valid GL (mkEnv ty [(139, conSem c_r05_character)] [] [] [0, 2, 3, 4, 8, 13]) {} Tryz.f126.ntmps Tryz.f126.results.toList (bodyOf Tryz.f126) := by kernel_rfl
theorem k126 : t126 := by
  unfold t126
  delta q6 q88 q103 q11 q12 q56 q7 q113 lnZ q1 q52 q116 q91 wrZ wsZ wiZ q452
  rintro ⟨l, _⟩ hx hp
  have hp : l.length ≤ 1000000000 := hp
  try dsimp +instances only [dft_int, dft_sl, dft_str]
  simp only [true_and, and_true, eq_self_iff_true, implies_true, reduceCtorEq, false_implies, true_implies, decide_eq_true_eq, decide_eq_false_iff_not, beq_self_eq_true, Bool.not_eq_true', ne_eq, Decidable.not_not, List.nil_append, List.length_singleton, List.length_cons, List.length_nil, Nat.zero_add, Nat.add_zero, Nat.mul_one, and_self, beq_iff_eq, Bool.not_true, Bool.not_false, Bool.not_eq_false', Bool.cond_false_right, Bool.and_eq_true, imp_self, Bool.not_eq_true, Bool.cond_true_left, Bool.or_eq_true]
  refine ⟨fun y _ => 0 ≤ y.1 ∧ y.1 ≤ l.length ∧ vld l 0 = vld l y.1.toNat, fun y _ => ((l.length : Int) - y.1).toNat, ⟨by omega, by omega, rfl⟩, ?_⟩
  rintro ⟨i, r, _⟩ z _ ⟨h0, h1, h2⟩
  simp only at h0 h1 h2 ⊢
  refine ⟨fun hlt => ⟨⟨hp, h0, hlt⟩, ?_⟩, fun hge => ?_⟩
  . rintro ⟨c, _⟩ _ ec
    simp only at ec ⊢
    have hil : i.toNat < l.length := by omega
    have hle := chw_le l i.toNat hil
    refine ⟨fun h => ?_, fun h => ?_⟩
    . rw [h2, vld_stop (fun hc => hc.2 (by omega))]
      omega
    . have hw : IntKind.wrap .i64 (i + c) = i + c := wrapK _ (by omega) (by omega)
      rw [hw]
      refine ⟨⟨by omega, by omega, ?_⟩, by omega⟩
      rw [h2, vld_step hil (by omega)]
      congr 1
      omega
  . rw [h2, vld_stop (fun hc => by omega)]
    omega
theorem h126 : c_r05_Valid.ok Tryz.prog GL 126 := con_ok (H := {}) (mkEnv_ok (gl := GL) (l := [(139, conSem c_r05_character)]) (q := []) (d := []) _ tyOk (by kernel_rfl) ⟨h139.call, trivial⟩ trivial trivial) (by kernel_rfl) (by kernel_rfl) (Eq.mp e126 k126)
def t152 : Prop :=
  ∀ (x : q1), (q121 x) -> True -> (decide (q456 x) = true -> True) /\ (q118 x) /\ (q119 x) /\ ((q120 x) = true -> IntKind.wrap IntKind.u8 (IntKind.wrap IntKind.u8 (x.1 + (97 : Int)) - q555) =
  smallD x.1) /\ (q117 x)
theorem e152 : t152 = Con.vc c_text_small GL (mkEnv ty [] [] [] [0, 2, 8]) {} Tryz.f152.ntmps Tryz.f152.results.toList (bodyOf Tryz.f152) := by kernel_rfl
theorem k152 : t152 := by
  unfold t152
  delta q1 q121 q456 q118 q119 q120 q555 q117 q553
  rintro ⟨l, _⟩ hx hp
  try dsimp +instances only [dft_int, dft_sl, dft_str]
  simp only [true_and, and_true, eq_self_iff_true, implies_true, reduceCtorEq, false_implies, true_implies, decide_eq_true_eq, decide_eq_false_iff_not, beq_self_eq_true, Bool.not_eq_true', ne_eq, Decidable.not_not, List.nil_append, List.length_singleton, List.length_cons, List.length_nil, Nat.zero_add, Nat.add_zero, Nat.mul_one, and_self, beq_iff_eq, Bool.not_true, Bool.not_false, Bool.not_eq_false', Bool.cond_false_right, Bool.and_eq_true, imp_self, Bool.not_eq_true, Bool.cond_true_left, Bool.or_eq_true]
  refine ⟨fun h => ?_, fun h => ?_⟩
  . rw [smallD, if_pos h]
    simp [IntKind.wrap, IntKind.signed, IntKind.bits]
    omega
  . rw [smallD, if_neg (fun hc => by
      rcases Bool.and_eq_false_iff.1 h with h | h
      . exact of_decide_eq_false h hc.1
      . exact of_decide_eq_false h hc.2)]
theorem h152 : c_text_small.ok Tryz.prog GL 152 := con_ok (H := {}) (mkEnv_ok (gl := GL) (l := []) (q := []) (d := []) _ tyOk (by kernel_rfl) trivial trivial trivial) (by kernel_rfl) (by kernel_rfl) (Eq.mp e152 k152)
def t156 : Prop :=
  ∀ (x : q1), (q121 x) -> True -> (decide ((97 : Int) <= x.1) = true -> True) /\ (q122 x) /\ (q124 x) /\ ((q458 x) = true -> true = printsD x.1) /\ ((q458 x) = false -> (decide (q456 x) =
  true -> True) /\ (q118 x) /\ (q119 x) /\ ((q120 x) = true -> true = printsD x.1) /\ ((q120 x) = false -> (decide (q459 <= x.1) = true -> True) /\ (q123 x) /\ (q125 x) /\ ((q126 x) = true ->
  true = printsD x.1) /\ ((q126 x) = false -> (decide (x.1 ≠ q56) = true -> True) /\ (decide (x.1 ≠ q56) = true -> (decide (x.1 ≠ q56) == true) = true /\ True /\ (∀ (y : q1), (q52 y) -> y.1 =
  idxB q457 x.1 -> decide (q55 y) = printsD x.1) /\ True) /\ (decide (x.1 ≠ q56) = !true -> false = printsD x.1))))
theorem e156 : t156 = Con.vc c_text_prints GL (mkEnv ty [(88, conSem c_strings_IndexByte)] [] [] [0, 2, 3]) {} Tryz.f156.ntmps Tryz.f156.results.toList (bodyOf Tryz.f156) := by kernel_rfl
theorem k156 : t156 := by
  unfold t156
  delta q1 q121 q122 q124 q458 q456 q118 q119 q120 q459 q123 q125 q126 q56 q52 q457 q55 q553 q555 wiZ q452
  rintro ⟨c, _⟩ hx hp
  have hc : 0 ≤ c ∧ c ≤ 255 := by
    have h : InR .u8 c := hx.1
    simpa [InR, IntKind.min, IntKind.max, IntKind.signed, IntKind.bits] using h
  try dsimp +instances only [dft_int, dft_sl, dft_str]
  simp only [true_and, and_true, eq_self_iff_true, implies_true, reduceCtorEq, false_implies, true_implies, decide_eq_true_eq, decide_eq_false_iff_not, beq_self_eq_true, Bool.not_eq_true', ne_eq, Decidable.not_not, List.nil_append, List.length_singleton, List.length_cons, List.length_nil, Nat.zero_add, Nat.add_zero, Nat.mul_one, and_self, beq_iff_eq, Bool.not_true, Bool.not_false, Bool.not_eq_false', Bool.cond_false_right, Bool.and_eq_true, imp_self, Bool.not_eq_true, Bool.cond_true_left, Bool.or_eq_true]
  have key : ∀ c : Fin 256, decide (0 ≤ idxB (bs { data := #[32, 39, 40, 41, 43, 44, 45, 46, 47, 58, 61, 63] }) (c.val : Int)) = true → printsD (c.val : Int) = true := by decide +kernel
  have key2 : ∀ c : Fin 256, ((decide (97 ≤ (c.val : Int)) && decide ((c.val : Int) ≤ 122)) = false) → ((decide (65 ≤ (c.val : Int)) && decide ((c.val : Int) ≤ 90)) = false) → ((decide (48 ≤ (c.val : Int)) && decide ((c.val : Int) ≤ 57)) = false) → decide (0 ≤ idxB (bs { data := #[32, 39, 40, 41, 43, 44, 45, 46, 47, 58, 61, 63] }) (c.val : Int)) = printsD (c.val : Int) := by decide +kernel
  have k2 := key2 ⟨c.toNat, by omega⟩
  simp only [Int.toNat_of_nonneg hc.1] at k2
  refine ⟨fun h => by simp [printsD, h], fun h1 => ⟨fun h => by simp [printsD, h], fun h2 => ⟨fun h => by simp [printsD, h], fun h3 => ⟨fun h => ⟨h, fun y _ ey => by rw [ey]; exact k2 h1 h2 h3⟩, fun h => by subst h; decide⟩⟩⟩⟩
theorem h156 : c_text_prints.ok Tryz.prog GL 156 := con_ok (H := {}) (mkEnv_ok (gl := GL) (l := [(88, conSem c_strings_IndexByte)]) (q := []) (d := []) _ tyOk (by kernel_rfl) ⟨h88.call, trivial⟩ trivial trivial) (by kernel_rfl) (by kernel_rfl) (Eq.mp e156 k156)
def t127 : Prop :=
  ∀ (x : q1), (q121 x) -> True -> (decide ((97 : Int) <= x.1) = true -> True) /\ (q122 x) /\ (q124 x) /\ (q139 x) /\ (q134 x) /\ (q139 x) /\ (q133 x) /\ (q128 x) /\ (q127 x) /\ (q136 x) /\
  (q135 x) /\ ((q138 x) = false -> (q137 x) = true /\ True) /\ (q135 x) /\ ((q130 x) = true -> decide (q459 <= x.1) = true -> True) /\ ((q130 x) = true -> decide (q459 <= x.1) = true -> (q129
  x) = true /\ True) /\ ((q138 x) = false -> (q130 x) = true /\ (decide (q459 <= x.1) = true -> (q129 x) = true) /\ True) /\ ((q138 x) = false -> (q137 x) = true) /\ ((q131 x) = true -> true
  = printsD x.1) /\ ((q131 x) = false -> ∃ (I : q8), ∃ (μ : q9), (bs { data := #[(32 : UInt8), (39 : UInt8), (40 : UInt8), (41 : UInt8), (43 : UInt8), (44 : UInt8), (45 : UInt8), q140, (47 :
  UInt8), (58 : UInt8), (61 : UInt8), (63 : UInt8)] } = bs { data := #[(32 : UInt8), (39 : UInt8), (40 : UInt8), (41 : UInt8), (43 : UInt8), (44 : UInt8), (45 : UInt8), q140, (47 : UInt8),
  (58 : UInt8), (61 : UInt8), (63 : UInt8)] } /\ Value.bool false = Value.bool false /\ x.1 = x.1 /\ I (q56, false, ()) ()) /\ ∀ (y : q10) (z : Unit), (q102 y) -> True -> I y z -> (decide
  (y.1 < (↑(12 : Nat) : Int)) = true -> (q56 <= y.1 /\ y.1 < (↑(12 : Nat) : Int)) /\ (decide (q132 y x) = true -> true = printsD x.1) /\ (decide (q132 y x) = false -> bs { data := #[(32 :
  UInt8), (39 : UInt8), (40 : UInt8), (41 : UInt8), (43 : UInt8), (44 : UInt8), (45 : UInt8), q140, (47 : UInt8), (58 : UInt8), (61 : UInt8), (63 : UInt8)] } = bs { data := #[(32 : UInt8),
  (39 : UInt8), (40 : UInt8), (41 : UInt8), (43 : UInt8), (44 : UInt8), (45 : UInt8), q140, (47 : UInt8), (58 : UInt8), (61 : UInt8), (63 : UInt8)] } /\ Value.bool false = Value.bool false /\
  x.1 = x.1 /\ I (wrZ (q104 y), y.2.1, ()) () /\ μ (wrZ (q104 y), y.2.1, ()) () < μ y z)) /\ (decide (y.1 < (↑(12 : Nat) : Int)) = false -> false = printsD x.1))
theorem e127 : t127 = Con.vc c_r05_Prints GL (mkEnv ty [] [] [] [0, 2, 3, 4, 26, 30, 37]) {} Tryz.f127.ntmps Tryz.f127.results.toList (bodyOf Tryz.f127) := by kernel_rfl
theorem k127 : t127 := by
  unfold t127
  delta q1 q121 q122 q124 q139 q134 q133 q128 q127 q136 q135 q138 q137 q130 q459 q129 q131 q8 q9 q140 q56 q10 q102 q132 wrZ q104 q553 q458 q505 q456 q504 q506 wiZ wbZ q457 q507 q452 q491 q575 q555
  rintro ⟨c, _⟩ hx hp
  try dsimp +instances only [dft_int, dft_sl, dft_str]
  simp only [true_and, and_true, eq_self_iff_true, implies_true, reduceCtorEq, false_implies, true_implies, decide_eq_true_eq, decide_eq_false_iff_not, beq_self_eq_true, Bool.not_eq_true', ne_eq, Decidable.not_not, List.nil_append, List.length_singleton, List.length_cons, List.length_nil, Nat.zero_add, Nat.add_zero, Nat.mul_one, and_self, beq_iff_eq, Bool.not_true, Bool.not_false, Bool.not_eq_false', Bool.cond_false_right, Bool.and_eq_true, imp_self, Bool.not_eq_true, Bool.cond_true_left, Bool.or_eq_true]
  have hT : bs { data := #[32, 39, 40, 41, 43, 44, 45, 46, 47, 58, 61, 63] } = ([32, 39, 40, 41, 43, 44, 45, 46, 47, 58, 61, 63] : List Int) := by decide
  rw [hT]
  refine ⟨fun h h2 => ⟨h, h2⟩, fun h => ⟨h, fun h2 => ⟨h, h2⟩⟩, fun h h2 => ⟨h, h2⟩, fun h => ⟨h, fun h2 => ⟨h, h2⟩⟩, fun h => ?_, fun h => ?_⟩
  . have : printsD c = true := by
      rw [printsD, decide_eq_true_eq]
      omega
    exact this.symm
  . have hn : ¬ (97 ≤ c ∧ c ≤ 122) ∧ ¬ (65 ≤ c ∧ c ≤ 90) ∧ ¬ (48 ≤ c ∧ c ≤ 57) := by
      simp only [Bool.or_eq_false_iff, Bool.and_eq_false_iff, decide_eq_false_iff_not] at h
      omega
    generalize hTT : ([32, 39, 40, 41, 43, 44, 45, 46, 47, 58, 61, 63] : List Int) = T
    have hTl : T.length = 12 := by rw [← hTT]; rfl
    refine ⟨fun y _ => 0 ≤ y.1 ∧ y.1 ≤ 12 ∧ ∀ j, j < y.1.toNat → T.getD j 0 ≠ c, fun y _ => (12 - y.1).toNat, ⟨by omega, by omega, fun j hj => by simp at hj⟩, ?_⟩
    rintro ⟨i, b, _⟩ z _ ⟨h0, h1, h2⟩
    simp only at h0 h1 h2 ⊢
    have hw : IntKind.wrap .i64 (i + 1) = i + 1 := wrapK _ (by omega) (by omega)
    rw [hw]
    refine ⟨fun hlt => ⟨⟨h0, hlt⟩, fun h3 => ?_, fun h3 => ⟨⟨by omega, by omega, fun j hj => ?_⟩, by omega⟩⟩, fun hge => ?_⟩
    . have hlt2 : i.toNat < T.length := by omega
      have hm : c ∈ T := by
        rw [List.getD_eq_getElem?_getD, List.getElem?_eq_getElem hlt2] at h3
        have h3 : T[i.toNat] = c := h3
        rw [← h3]; exact List.getElem_mem hlt2
      have : printsD c = true := by
        rw [printsD, decide_eq_true_eq, hTT]
        exact .inr (.inr (.inr hm))
      exact this.symm
    . by_cases hji : j < i.toNat
      . exact h2 j hji
      . rw [show j = i.toNat by omega]; exact h3
    . have : printsD c = false := by
        rw [printsD, decide_eq_false_iff_not, hTT]
        rintro (h | h | h | h)
        . exact hn.1 h
        . exact hn.2.1 h
        . exact hn.2.2 h
        . obtain ⟨j, hj, e⟩ := List.getElem_of_mem h
          refine h2 j (by omega) ?_
          rw [List.getD_eq_getElem?_getD, List.getElem?_eq_getElem hj]
          exact e
      exact this.symm
theorem h127 : c_r05_Prints.ok Tryz.prog GL 127 := con_ok (H := {}) (mkEnv_ok (gl := GL) (l := []) (q := []) (d := []) _ tyOk (by kernel_rfl) trivial trivial trivial) (by kernel_rfl) (by kernel_rfl) (Eq.mp e127 k127)
def t148 : Prop :=
  ∀ (x : Int × List Int × Unit), (wiZ x.1 /\ wsZ x.2.1 /\ True) -> True -> (decide (q141 x) = true -> false = mayD x.1 x.2.1) /\ (decide (q141 x) = false -> (decide (x.1 = q90) = true -> True
  /\ (∀ (y : q1), (q52 y) -> y.1 = (↑(vld x.2.1 q91) : Int) -> decide (y.1 = (lnZ x.2.1)) = mayD x.1 x.2.1) /\ True) /\ (decide (x.1 = q90) = false -> (decide (x.1 = (19 : Int)) = true -> ∃
  (I : q8), ∃ (μ : q9), ((lnZ x.2.1) = (lnZ x.2.1) /\ Value.bool true = Value.bool true /\ Value.bool false = Value.bool false /\ x.1 = x.1 /\ Value.bool false = Value.bool false /\ x.1 = x.1
  /\ x.2.1 = x.2.1 /\ I (q56, false, ()) ()) /\ ∀ (y : q10) (z : Unit), (q102 y) -> True -> I y z -> (decide (y.1 < (lnZ x.2.1)) = true -> (q56 <= y.1 /\ y.1 < (lnZ x.2.1)) /\ True /\ (∀ (y_1
  : q4), (q67 y_1) -> y_1.1 = printsD (List.getD x.2.1 (q142 y) q56) -> ((!y_1.1) = true -> false = mayD x.1 x.2.1) /\ ((!y_1.1) = false -> (lnZ x.2.1) = (lnZ x.2.1) /\ Value.bool true =
  Value.bool true /\ Value.bool false = Value.bool false /\ x.1 = x.1 /\ Value.bool false = Value.bool false /\ x.1 = x.1 /\ x.2.1 = x.2.1 /\ I (wrZ (q104 y), y.2.1, ()) () /\ μ (wrZ (q104
  y), y.2.1, ()) () < μ y z)) /\ True) /\ (decide (y.1 < (lnZ x.2.1)) = false -> true = mayD x.1 x.2.1)) /\ (decide (x.1 = (19 : Int)) = false -> (decide (x.1 = (22 : Int)) = true -> ∃ (I :
  q8), ∃ (μ : q9), ((lnZ x.2.1) = (lnZ x.2.1) /\ Value.bool true = Value.bool true /\ Value.bool false = Value.bool false /\ Value.bool false = Value.bool false /\ x.1 = x.1 /\ Value.bool
  false = Value.bool false /\ x.1 = x.1 /\ x.2.1 = x.2.1 /\ I (q56, false, ()) ()) /\ ∀ (y : q10) (z : Unit), (q102 y) -> True -> I y z -> (decide (y.1 < (lnZ x.2.1)) = true -> (q56 <= y.1 /\
  y.1 < (lnZ x.2.1)) /\ (decide (q115 <= List.getD x.2.1 (q142 y) q56) = true -> false = mayD x.1 x.2.1) /\ (decide (q115 <= List.getD x.2.1 (q142 y) q56) = false -> (lnZ x.2.1) = (lnZ x.2.1)
  /\ Value.bool true = Value.bool true /\ Value.bool false = Value.bool false /\ Value.bool false = Value.bool false /\ x.1 = x.1 /\ Value.bool false = Value.bool false /\ x.1 = x.1 /\ x.2.1
  = x.2.1 /\ I (wrZ (q104 y), y.2.1, ()) () /\ μ (wrZ (q104 y), y.2.1, ()) () < μ y z)) /\ (decide (y.1 < (lnZ x.2.1)) = false -> true = mayD x.1 x.2.1)) /\ (decide (x.1 = (22 : Int)) = false
  -> false = mayD x.1 x.2.1))))
theorem e148 : t148 = Con.vc c_text_May GL (mkEnv ty [(155, conSem c_text_Valid), (156, conSem c_text_prints)] [] [] [0, 1, 4, 5, 6, 9, 10, 11, 18, 21, 22, 23, 29, 31, 34, 35, 36, 41]) {} Tryz.f148.ntmps Tryz.f148.results.toList (bodyOf Tryz.f148) := by kernel_rfl
theorem k148 : t148 := by
  unfold t148
  delta wiZ wsZ q141 q90 q1 q52 q91 lnZ q8 q9 q56 q10 q102 q4 q67 q142 wrZ q104 q115 wbZ q491
  rintro ⟨k, m, _⟩ hx hp
  try dsimp +instances only [dft_int, dft_sl, dft_str]
  simp only [true_and, and_true, eq_self_iff_true, implies_true, reduceCtorEq, false_implies, true_implies, decide_eq_true_eq, decide_eq_false_iff_not, beq_self_eq_true, Bool.not_eq_true', ne_eq, Decidable.not_not, List.nil_append, List.length_singleton, List.length_cons, List.length_nil, Nat.zero_add, Nat.add_zero, Nat.mul_one, and_self, beq_iff_eq, Bool.not_true, Bool.not_false, Bool.not_eq_false', Bool.cond_false_right, Bool.and_eq_true, imp_self, Bool.not_eq_true, Bool.cond_true_left, Bool.or_eq_true]
  refine ⟨fun h => by rw [mayD, if_pos (by omega)], fun hl => ⟨fun h => ?_, fun h12 => ⟨fun h19 => ?_, fun h19 => ⟨fun h22 => ?_, fun h22 => ?_⟩⟩⟩⟩
  . rintro ⟨a, _⟩ _ ea
    simp only at ea ⊢
    rw [mayD, if_neg (by omega), if_pos h, ea]
    exact decide_eq_decide.2 (by omega)
  . have hm : mayD k m = m.all printsD := by rw [mayD, if_neg (by omega), if_neg h12, if_pos h19]
    rw [hm]
    refine ⟨fun y _ => 0 ≤ y.1 ∧ y.1 ≤ m.length ∧ ∀ j, j < y.1.toNat → printsD (m.getD j 0) = true, fun y _ => ((m.length : Int) - y.1).toNat, ⟨by omega, by omega, fun j hj => by simp at hj⟩, ?_⟩
    rintro ⟨i, b, _⟩ z _ ⟨h0, h1, h2⟩
    simp only at h0 h1 h2 ⊢
    have hw : IntKind.wrap .i64 (i + 1) = i + 1 := wrapK _ (by omega) (by omega)
    rw [hw]
    refine ⟨fun hlt => ⟨⟨h0, hlt⟩, ?_⟩, fun hge => (all_get _ _ (fun j hj => h2 j (by omega))).symm⟩
    rintro ⟨a, _⟩ _ ea
    simp only at ea ⊢
    refine ⟨fun h => (all_not _ _ i.toNat (by omega) (by rw [← ea]; exact h)).symm, fun h => ⟨⟨by omega, by omega, fun j hj => ?_⟩, by omega⟩⟩
    by_cases hji : j < i.toNat
    . exact h2 j hji
    . rw [show j = i.toNat by omega, ← ea]; exact h
  . have hm : mayD k m = m.all (fun c => decide (c < 128)) := by rw [mayD, if_neg (by omega), if_neg h12, if_neg h19, if_pos h22]
    rw [hm]
    refine ⟨fun y _ => 0 ≤ y.1 ∧ y.1 ≤ m.length ∧ ∀ j, j < y.1.toNat → m.getD j 0 < 128, fun y _ => ((m.length : Int) - y.1).toNat, ⟨by omega, by omega, fun j hj => by simp at hj⟩, ?_⟩
    rintro ⟨i, b, _⟩ z _ ⟨h0, h1, h2⟩
    simp only at h0 h1 h2 ⊢
    have hw : IntKind.wrap .i64 (i + 1) = i + 1 := wrapK _ (by omega) (by omega)
    rw [hw]
    refine ⟨fun hlt => ⟨⟨h0, hlt⟩, fun h => (all_not _ _ i.toNat (by omega) (by simpa using h)).symm, fun h => ⟨⟨by omega, by omega, fun j hj => ?_⟩, by omega⟩⟩, fun hge => (all_get _ _ (fun j hj => by simpa using h2 j (by omega))).symm⟩
    by_cases hji : j < i.toNat
    . exact h2 j hji
    . rw [show j = i.toNat by omega]; omega
  . rw [mayD, if_neg (by omega), if_neg h12, if_neg h19, if_neg h22]
theorem h148 : c_text_May.ok Tryz.prog GL 148 := con_ok (H := {}) (mkEnv_ok (gl := GL) (l := [(155, conSem c_text_Valid), (156, conSem c_text_prints)]) (q := []) (d := []) _ tyOk (by kernel_rfl) ⟨h155.call, h156.call, trivial⟩ trivial trivial) (by kernel_rfl) (by kernel_rfl) (Eq.mp e148 k148)
def t110 : Prop :=
  ∀ (x : Int × List Int × Unit), (wiZ x.1 /\ wsZ x.2.1 /\ True) -> List.length x.2.1 <= q103 -> (decide (q141 x) = false -> True) /\ (decide (q141 x) = false -> (decide (q141 x) == false) =
  true /\ True) /\ (decide (q141 x) = false -> True) /\ ((q146 x) = true -> decide (x.1 ≠ q90) = true -> True) /\ ((q146 x) = true -> decide (x.1 ≠ q90) = true -> (q145 x) = true /\ True) /\
  (decide (q141 x) = false -> (q146 x) = true /\ (decide (x.1 ≠ q90) = true -> (q145 x) = true) /\ True) /\ (decide (q141 x) = false -> True) /\ ((q146 x) = true -> (q147 x) = true -> True)
  /\ ((q146 x) = true -> (q147 x) = true -> (q143 x) = true /\ True) /\ (decide (q141 x) = false -> (q146 x) = true /\ ((q147 x) = true -> (q143 x) = true) /\ True) /\ (decide (q141 x) =
  false -> (decide (q141 x) == false) = true) /\ ((q144 x) = true -> false = mayD x.1 x.2.1) /\ ((q144 x) = false -> (decide (x.1 = q90) = true -> List.length x.2.1 <= q103 /\ (∀ (y : q1),
  (q52 y) -> y.1 = (↑(vld x.2.1 q91) : Int) -> decide (y.1 = (lnZ x.2.1)) = mayD x.1 x.2.1) /\ True) /\ (decide (x.1 = q90) = false -> ∃ (I : q8), ∃ (μ : q9), (Value.bool false = Value.bool
  false /\ Value.bool false = Value.bool false /\ x.1 = x.1 /\ x.2.1 = x.2.1 /\ I (q56, false, ()) ()) /\ ∀ (y : q10) (z : Unit), (q102 y) -> True -> I y z -> (decide (y.1 < (lnZ x.2.1)) =
  true -> (decide (x.1 = (19 : Int)) = true -> True) /\ (decide (x.1 = (19 : Int)) = true -> True) /\ (decide (x.1 = (19 : Int)) = true -> (decide (x.1 = (19 : Int)) == true) = true /\
  (decide (x.1 = (19 : Int)) == true) = true /\ (q56 <= y.1 /\ y.1 < (lnZ x.2.1)) /\ True) /\ (decide (x.1 = (19 : Int)) = true -> (decide (x.1 = (19 : Int)) == true) = true /\ True /\ (∀
  (y_1 : q4), (q67 y_1) -> y_1.1 = printsD (List.getD x.2.1 (q142 y) q56) -> ((!y_1.1) = false -> True) /\ ((!y_1.1) = false -> True) /\ ((!y_1.1) = false -> ((!y_1.1) == false) = true /\
  ((!y_1.1) == false) = true /\ (q56 <= y.1 /\ y.1 < (lnZ x.2.1)) /\ True) /\ (q148 y_1) /\ ((!y_1.1) = false -> ((!y_1.1) == false) = true) /\ ((bif !y_1.1 then true else decide ((127 : Int)
  < List.getD x.2.1 (q142 y) q56)) = true -> false = mayD x.1 x.2.1) /\ ((bif !y_1.1 then true else decide ((127 : Int) < List.getD x.2.1 (q142 y) q56)) = false -> Value.bool false =
  Value.bool false /\ Value.bool false = Value.bool false /\ x.1 = x.1 /\ x.2.1 = x.2.1 /\ I (wrZ (q104 y), y.2.1, ()) () /\ μ (wrZ (q104 y), y.2.1, ()) () < μ y z)) /\ True) /\ (decide (x.1
  = (19 : Int)) = !true -> (q56 <= y.1 /\ y.1 < (lnZ x.2.1)) /\ (decide ((127 : Int) < List.getD x.2.1 (q142 y) q56) = true -> false = mayD x.1 x.2.1) /\ (decide ((127 : Int) < List.getD
  x.2.1 (q142 y) q56) = false -> Value.bool false = Value.bool false /\ Value.bool false = Value.bool false /\ x.1 = x.1 /\ x.2.1 = x.2.1 /\ I (wrZ (q104 y), y.2.1, ()) () /\ μ (wrZ (q104 y),
  y.2.1, ()) () < μ y z))) /\ (decide (y.1 < (lnZ x.2.1)) = false -> true = mayD x.1 x.2.1)))
theorem e110 : t110 = Con.vc c_r05_May GL (mkEnv ty [(126, conSem c_r05_Valid), (127, conSem c_r05_Prints)] [] [] [0, 1, 4, 5, 20, 22, 31, 48]) {} Tryz.f110.ntmps Tryz.f110.results.toList (bodyOf Tryz.f110) := by kernel_rfl
theorem k110 : t110 := by
  unfold t110
  delta wiZ wsZ q103 q141 q146 q90 q145 q147 q143 q144 q1 q52 q91 lnZ q8 q9 q56 q10 q102 q4 q67 q142 q148 wrZ q104 wbZ q491
  rintro ⟨k, m, _⟩ hx hp
  have hp : m.length ≤ 1000000000 := hp
  try dsimp +instances only [dft_int, dft_sl, dft_str]
  simp only [true_and, and_true, eq_self_iff_true, implies_true, reduceCtorEq, false_implies, true_implies, decide_eq_true_eq, decide_eq_false_iff_not, beq_self_eq_true, Bool.not_eq_true', ne_eq, Decidable.not_not, List.nil_append, List.length_singleton, List.length_cons, List.length_nil, Nat.zero_add, Nat.add_zero, Nat.mul_one, and_self, beq_iff_eq, Bool.not_true, Bool.not_false, Bool.not_eq_false', Bool.cond_false_right, Bool.and_eq_true, imp_self, Bool.not_eq_true, Bool.cond_true_left, Bool.or_eq_true]
  refine ⟨fun h h2 => ⟨h, h2⟩, fun h => ⟨h, fun h2 => ⟨h, h2⟩⟩, fun h h2 => ⟨h, h2⟩, fun h => ⟨h, fun h2 => ⟨h, h2⟩⟩, fun h => ?_, fun h => ⟨fun h12 => ⟨hp, ?_⟩, fun h12 => ?_⟩⟩
  . symm
    unfold mayD
    by_cases h4 : 4096 < m.length
    . rw [if_pos h4]
    . rw [if_neg h4, if_neg (by omega), if_neg (by omega), if_neg (by omega)]
  . simp only [Bool.or_eq_false_iff, decide_eq_false_iff_not] at h
    rintro ⟨a, _⟩ _ ea
    simp only at ea ⊢
    rw [mayD, if_neg (by omega), if_pos h12, ea]
    exact decide_eq_decide.2 (by omega)
  . simp only [Bool.or_eq_false_iff, Bool.and_eq_false_iff, decide_eq_false_iff_not, Decidable.not_not] at h
    have hm : ∀ i : Int, 0 ≤ i → i ≤ m.length → True := fun _ _ _ => trivial
    by_cases h19 : k = 19
    . have hm : mayD k m = m.all printsD := by rw [mayD, if_neg (by omega), if_neg h12, if_pos h19]
      rw [hm]
      refine ⟨fun y _ => 0 ≤ y.1 ∧ y.1 ≤ m.length ∧ ∀ j, j < y.1.toNat → printsD (m.getD j 0) = true, fun y _ => ((m.length : Int) - y.1).toNat, ⟨by omega, by omega, fun j hj => by simp at hj⟩, ?_⟩
      rintro ⟨i, b, _⟩ z _ ⟨h0, h1, h2⟩
      simp only at h0 h1 h2 ⊢
      have hw : IntKind.wrap .i64 (i + 1) = i + 1 := wrapK _ (by omega) (by omega)
      rw [hw]
      refine ⟨fun hlt => ⟨fun e => ⟨e, e, h0, hlt⟩, fun e => ⟨e, ?_⟩, fun e => absurd h19 e⟩, fun hge => (all_get _ _ (fun j hj => h2 j (by omega))).symm⟩
      rintro ⟨a, _⟩ _ ea
      simp only at ea ⊢
      refine ⟨fun h => ⟨h, h, h0, hlt⟩, fun h => ?_, fun h => ⟨⟨by omega, by omega, fun j hj => ?_⟩, by omega⟩⟩
      . refine (all_not _ _ i.toNat (by omega) ?_).symm
        rcases h with h | h
        . rw [← ea]; exact h
        . cases hpr : printsD (m.getD i.toNat 0) with
          | false => rfl
          | true => have := prints_low hpr; omega
      . by_cases hji : j < i.toNat
        . exact h2 j hji
        . rw [show j = i.toNat by omega, ← ea]
          have := (Bool.or_eq_false_iff.1 h).1
          simpa using this
    . have h22 : k = 22 := by omega
      have hm : mayD k m = m.all (fun c => decide (c < 128)) := by rw [mayD, if_neg (by omega), if_neg h12, if_neg h19, if_pos h22]
      rw [hm]
      refine ⟨fun y _ => 0 ≤ y.1 ∧ y.1 ≤ m.length ∧ ∀ j, j < y.1.toNat → m.getD j 0 < 128, fun y _ => ((m.length : Int) - y.1).toNat, ⟨by omega, by omega, fun j hj => by simp at hj⟩, ?_⟩
      rintro ⟨i, b, _⟩ z _ ⟨h0, h1, h2⟩
      simp only at h0 h1 h2 ⊢
      have hw : IntKind.wrap .i64 (i + 1) = i + 1 := wrapK _ (by omega) (by omega)
      rw [hw]
      refine ⟨fun hlt => ⟨fun e => absurd e h19, fun e => absurd e h19, fun _ => ⟨⟨h0, hlt⟩, fun h => (all_not _ _ i.toNat (by omega) (by show decide (m.getD i.toNat 0 < 128) = false; rw [decide_eq_false_iff_not]; omega)).symm, fun h => ⟨⟨by omega, by omega, fun j hj => ?_⟩, by omega⟩⟩⟩, fun hge => (all_get _ _ (fun j hj => by simpa using h2 j (by omega))).symm⟩
      by_cases hji : j < i.toNat
      . exact h2 j hji
      . rw [show j = i.toNat by omega]; omega
theorem h110 : c_r05_May.ok Tryz.prog GL 110 := con_ok (H := {}) (mkEnv_ok (gl := GL) (l := [(126, conSem c_r05_Valid), (127, conSem c_r05_Prints)]) (q := []) (d := []) _ tyOk (by kernel_rfl) ⟨h126.call, h127.call, trivial⟩ trivial trivial) (by kernel_rfl) (by kernel_rfl) (Eq.mp e110 k110)
def t135 : Prop :=
  ∀ (x : q6), (q88 x) -> True -> True /\ (∀ (y : q4), (q67 y) -> y.1 = mayD (19 : Int) x.1 -> (y.1 = true -> (19 : Int) = (kindD x.1).1 /\ q56 = (kindD x.1).2) /\ (y.1 = false -> True /\ (∀
  (y : q4), (q67 y) -> y.1 = mayD q90 x.1 -> (y.1 = true -> q90 = (kindD x.1).1 /\ q56 = (kindD x.1).2) /\ (y.1 = false -> q56 = (kindD x.1).1 /\ (50 : Int) = (kindD x.1).2)) /\ True)) /\
  True
theorem e135 : t135 = Con.vc c_text_Kind GL (mkEnv ty [(148, conSem c_text_May)] [] [] [0, 2, 3, 4, 7]) {} Tryz.f135.ntmps Tryz.f135.results.toList (bodyOf Tryz.f135) := by kernel_rfl
theorem k135 : t135 := by
  unfold t135
  delta q6 q88 q4 q67 q56 q90 wsZ wbZ
  rintro ⟨l, _⟩ hx hp
  try dsimp +instances only [dft_int, dft_sl, dft_str]
  simp only [true_and, and_true, eq_self_iff_true, implies_true, reduceCtorEq, false_implies, true_implies, decide_eq_true_eq, decide_eq_false_iff_not, beq_self_eq_true, Bool.not_eq_true', ne_eq, Decidable.not_not, List.nil_append, List.length_singleton, List.length_cons, List.length_nil, Nat.zero_add, Nat.add_zero, Nat.mul_one, and_self, beq_iff_eq, Bool.not_true, Bool.not_false, Bool.not_eq_false', Bool.cond_false_right, Bool.and_eq_true, imp_self, Bool.not_eq_true, Bool.cond_true_left, Bool.or_eq_true]
  rintro ⟨a, _⟩ _ ea
  simp only at ea ⊢
  refine ⟨fun h => by rw [kindD, if_pos (by rw [← ea]; exact h)]; exact ⟨rfl, rfl⟩, fun h => ?_⟩
  rintro ⟨b, _⟩ _ eb
  simp only at eb ⊢
  refine ⟨fun h2 => ?_, fun h2 => ?_⟩
  . rw [kindD, if_neg (by rw [← ea, h]; decide), if_pos (by rw [← eb]; exact h2)]; exact ⟨rfl, rfl⟩
  . rw [kindD, if_neg (by rw [← ea, h]; decide), if_neg (by rw [← eb, h2]; decide)]; exact ⟨rfl, rfl⟩
theorem h135 : c_text_Kind.ok Tryz.prog GL 135 := con_ok (H := {}) (mkEnv_ok (gl := GL) (l := [(148, conSem c_text_May)]) (q := []) (d := []) _ tyOk (by kernel_rfl) ⟨h148.call, trivial⟩ trivial trivial) (by kernel_rfl) (by kernel_rfl) (Eq.mp e135 k135)
def t94 : Prop :=
  ∀ (x : q6), (q88 x) -> List.length x.1 <= q103 -> List.length x.1 <= q103 /\ (∀ (y : q4), (q67 y) -> y.1 = mayD (19 : Int) x.1 -> (y.1 = true -> (19 : Int) = (kindD x.1).1 /\ q56 = (kindD
  x.1).2) /\ (y.1 = false -> List.length x.1 <= q103 /\ (∀ (y : q4), (q67 y) -> y.1 = mayD q90 x.1 -> (y.1 = true -> q90 = (kindD x.1).1 /\ q56 = (kindD x.1).2) /\ (y.1 = false -> q56 =
  (kindD x.1).1 /\ (50 : Int) = (kindD x.1).2)) /\ True)) /\ True
theorem e94 : t94 = Con.vc c_r05_Kind GL (mkEnv ty [(110, conSem c_r05_May)] [] [] [0, 2, 3, 5, 7]) {} Tryz.f94.ntmps Tryz.f94.results.toList (bodyOf Tryz.f94) := by kernel_rfl
theorem k94 : t94 := by
  unfold t94
  delta q6 q88 q103 q4 q67 q56 q90 wsZ wbZ
  rintro ⟨l, _⟩ hx hp
  try dsimp +instances only [dft_int, dft_sl, dft_str]
  simp only [true_and, and_true, eq_self_iff_true, implies_true, reduceCtorEq, false_implies, true_implies, decide_eq_true_eq, decide_eq_false_iff_not, beq_self_eq_true, Bool.not_eq_true', ne_eq, Decidable.not_not, List.nil_append, List.length_singleton, List.length_cons, List.length_nil, Nat.zero_add, Nat.add_zero, Nat.mul_one, and_self, beq_iff_eq, Bool.not_true, Bool.not_false, Bool.not_eq_false', Bool.cond_false_right, Bool.and_eq_true, imp_self, Bool.not_eq_true, Bool.cond_true_left, Bool.or_eq_true]
  refine ⟨hp, ?_⟩
  rintro ⟨a, _⟩ _ ea
  simp only at ea ⊢
  refine ⟨fun h => by rw [kindD, if_pos (by rw [← ea]; exact h)]; exact ⟨rfl, rfl⟩, fun h => ⟨hp, ?_⟩⟩
  rintro ⟨b, _⟩ _ eb
  simp only at eb ⊢
  refine ⟨fun h2 => ?_, fun h2 => ?_⟩
  . rw [kindD, if_neg (by rw [← ea, h]; decide), if_pos (by rw [← eb]; exact h2)]; exact ⟨rfl, rfl⟩
  . rw [kindD, if_neg (by rw [← ea, h]; decide), if_neg (by rw [← eb, h2]; decide)]; exact ⟨rfl, rfl⟩
theorem h94 : c_r05_Kind.ok Tryz.prog GL 94 := con_ok (H := {}) (mkEnv_ok (gl := GL) (l := [(110, conSem c_r05_May)]) (q := []) (d := []) _ tyOk (by kernel_rfl) ⟨h110.call, trivial⟩ trivial trivial) (by kernel_rfl) (by kernel_rfl) (Eq.mp e94 k94)
def t116 : Prop :=
  ∀ (x : q6), (q88 x) -> List.length x.1 <= q153 -> ∃ (I : Int × Int × Unit -> List (List Int) × Unit -> Prop), ∃ (μ : Int × Int × Unit -> List (List Int) × Unit -> Nat), (Value.slice none
  q91 q91 = Value.slice none q91 q91 /\ x.1 = x.1 /\ I (q56, q56, ()) ([], ())) /\ ∀ (y : q7) (z : q14), (q113 y) -> (q149 z) -> I y z -> (decide (y.1 <= (lnZ x.1)) = true -> (decide (y.1 =
  (lnZ x.1)) = false -> True) /\ (decide (y.1 = (lnZ x.1)) = false -> True) /\ (decide (y.1 = (lnZ x.1)) = false -> (decide (y.1 = (lnZ x.1)) == false) = true /\ (decide (y.1 = (lnZ x.1)) ==
  false) = true /\ (q56 <= y.1 /\ y.1 < (lnZ x.1)) /\ True) /\ (decide (y.1 = (lnZ x.1)) = false -> (decide (y.1 = (lnZ x.1)) == false) = true /\ True) /\ (decide (y.1 = (lnZ x.1)) = false ->
  (decide (y.1 = (lnZ x.1)) == false) = true) /\ ((bif decide (y.1 = (lnZ x.1)) then true else decide (List.getD x.1 (Int.toNat y.1) q56 = (32 : Int))) = true -> (decide (y.2.1 < y.1) = true
  -> (q56 <= y.2.1 /\ y.2.1 <= y.1 /\ y.1 <= (lnZ x.1)) /\ q91 < q59 /\ (List.length z.1 + List.length [List.drop (Int.toNat y.2.1) (q150 y x)]) * (16 : Nat) <= q152 /\ List.length z.1 +
  List.length [List.drop (Int.toNat y.2.1) (q150 y x)] <= q151 /\ Value.slice none q91 q91 = Value.slice none q91 q91 /\ x.1 = x.1 /\ I (wrZ (q114 y), wrZ (q114 y), ()) (z.1 ++ [List.drop
  (Int.toNat y.2.1) (q150 y x)], ()) /\ μ (wrZ (q114 y), wrZ (q114 y), ()) (z.1 ++ [List.drop (Int.toNat y.2.1) (q150 y x)], ()) < μ y z) /\ (decide (y.2.1 < y.1) = false -> Value.slice none
  q91 q91 = Value.slice none q91 q91 /\ x.1 = x.1 /\ I (wrZ (q114 y), wrZ (q114 y), ()) (z.1, ()) /\ μ (wrZ (q114 y), wrZ (q114 y), ()) (z.1, ()) < μ y z)) /\ ((bif decide (y.1 = (lnZ x.1))
  then true else decide (List.getD x.1 (Int.toNat y.1) q56 = (32 : Int))) = false -> Value.slice none q91 q91 = Value.slice none q91 q91 /\ x.1 = x.1 /\ I (wrZ (q114 y), y.2.1, ()) (z.1, ())
  /\ μ (wrZ (q114 y), y.2.1, ()) (z.1, ()) < μ y z)) /\ (decide (y.1 <= (lnZ x.1)) = false -> z.1 = wordsD x.1)
theorem e116 : t116 = Con.vc c_r05_Words GL (mkEnv ty [] [] [] [0, 2, 3, 4, 5, 9, 21, 24]) {} Tryz.f116.ntmps Tryz.f116.results.toList (bodyOf Tryz.f116) := by kernel_rfl
theorem k116 : t116 := by
  unfold t116
  delta q6 q88 q153 q91 q56 q7 q14 q113 q149 lnZ q59 q150 q152 q151 wrZ q114 wsZ wiZ q491
  rintro ⟨l, _⟩ hx hp
  have hp : l.length ≤ 100000000 := hp
  try dsimp +instances only [dft_int, dft_sl, dft_str]
  simp only [true_and, and_true, eq_self_iff_true, implies_true, reduceCtorEq, false_implies, true_implies, decide_eq_true_eq, decide_eq_false_iff_not, beq_self_eq_true, Bool.not_eq_true', ne_eq, Decidable.not_not, List.nil_append, List.length_singleton, List.length_cons, List.length_nil, Nat.zero_add, Nat.add_zero, Nat.mul_one, and_self, beq_iff_eq, Bool.not_true, Bool.not_false, Bool.not_eq_false', Bool.cond_false_right, Bool.and_eq_true, imp_self, Bool.not_eq_true, Bool.cond_true_left, Bool.or_eq_true]
  refine ⟨fun y z => 0 ≤ y.2.1 ∧ y.2.1 ≤ y.1 ∧ y.1 ≤ l.length + 1 ∧ (z.1.length : Int) ≤ y.1 ∧ ((y.1 ≤ l.length ∧ wordsD l = z.1 ++ wordsA ((l.take y.1.toNat).drop y.2.1.toNat) (l.drop y.1.toNat)) ∨ (y.1 = l.length + 1 ∧ wordsD l = z.1)), fun y _ => ((l.length : Int) + 1 - y.1).toNat, ⟨Int.le_refl 0, Int.le_refl 0, by omega, by simp, .inl ⟨by omega, rfl⟩⟩, ?_⟩
  rintro ⟨i, s, _⟩ ⟨z, _⟩ _ _ ⟨h0, h1, h2, h3, h4⟩
  simp only at h0 h1 h2 h3 h4 ⊢
  refine ⟨fun hle => ?_, fun hgt => ?_⟩
  . have hd : wordsD l = z ++ wordsA ((l.take i.toNat).drop s.toNat) (l.drop i.toNat) := by
      rcases h4 with h | h
      . exact h.2
      . omega
    have hw : IntKind.wrap .i64 (i + 1) = i + 1 := wrapK _ (by omega) (by omega)
    rw [hw]
    have e1 : (i + 1).toNat = i.toNat + 1 := by omega
    have hcl : ((l.take i.toNat).drop s.toNat).length = i.toNat - s.toNat := by simp; omega
    have nxt : ∀ z' : List (List Int), (z'.length : Int) ≤ i + 1 → (i = l.length ∨ l.getD i.toNat 0 = 32) → z' = z ++ (if (l.take i.toNat).drop s.toNat = [] then [] else [(l.take i.toNat).drop s.toNat]) →
        0 ≤ i + 1 ∧ i + 1 ≤ i + 1 ∧ i + 1 ≤ l.length + 1 ∧ (z'.length : Int) ≤ i + 1 ∧ ((i + 1 ≤ l.length ∧ wordsD l = z' ++ wordsA ((l.take (i + 1).toNat).drop (i + 1).toNat) (l.drop (i + 1).toNat)) ∨ (i + 1 = l.length + 1 ∧ wordsD l = z')) := by
      intro z' hz hc ez
      refine ⟨by omega, by omega, by omega, hz, ?_⟩
      by_cases hil : i = l.length
      . right
        refine ⟨by omega, ?_⟩
        rw [hd, ez, List.drop_of_length_le (by omega : l.length ≤ i.toNat), words_end]
      . left
        have h32 : l.getD i.toNat 0 = 32 := by omega
        refine ⟨by omega, ?_⟩
        rw [hd, ez, drop_cons l i.toNat (by omega), h32, words_sp, e1, List.drop_of_length_le (by simp; omega : (l.take (i.toNat + 1)).length ≤ i.toNat + 1)]
        simp
    refine ⟨fun h => ⟨h, h, by omega, by omega⟩, fun h => ⟨fun hs => ⟨⟨h0, h1, hle⟩, by decide, by omega, by omega, nxt _ (by simp; omega) h ?_, by omega⟩, fun hs => ⟨nxt _ (by omega) h ?_, by omega⟩⟩, fun h => ?_⟩
    . rw [if_neg (fun e => by have := congrArg List.length e; rw [hcl] at this; simp at this; omega)]
    . rw [if_pos (List.eq_nil_of_length_eq_zero (by rw [hcl]; omega))]
      simp
    . obtain ⟨g1, g2⟩ := Bool.or_eq_false_iff.1 h
      have g1 := of_decide_eq_false g1
      have g2 := of_decide_eq_false g2
      refine ⟨⟨by omega, by omega, by omega, by omega, .inl ⟨by omega, ?_⟩⟩, by omega⟩
      rw [hd, drop_cons l i.toNat (by omega), words_ch _ _ _ g2, e1, take_snoc l i.toNat (by omega), List.drop_append_of_le_length (by simp; omega)]
  . rcases h4 with h | h
    . omega
    . exact h.2.symm
theorem h116 : c_r05_Words.ok Tryz.prog GL 116 := con_ok (H := {}) (mkEnv_ok (gl := GL) (l := []) (q := []) (d := []) _ tyOk (by kernel_rfl) trivial trivial trivial) (by kernel_rfl) (by kernel_rfl) (Eq.mp e116 k116)
noncomputable def i157 : CallSem → CallSem := vcSeq (mkEnv ty [(88, conSem c_strings_IndexByte)] [] [] [0, 1, 3, 4, 8, 14, 31]) {joins := [5]} Tryz.f157.ntmps Tryz.f157.results.toList (bodyOf Tryz.f157)
theorem i157_ok : SeqOk Tryz.prog GL 157 i157 := seq_ok {joins := [5]} (mkEnv_ok (gl := GL) (l := [(88, conSem c_strings_IndexByte)]) (q := []) (d := []) _ tyOk (by kernel_rfl) ⟨h88.call, trivial⟩ trivial trivial) (by kernel_rfl) (by kernel_rfl)
noncomputable def i151 : CallSem := vcFn (mkEnv ty [] [] [] [0, 1, 2]) {} Tryz.f151.ntmps Tryz.f151.results.toList (bodyOf Tryz.f151)
theorem i151_ok : CallOk Tryz.prog GL 151 i151 := inl_ok {} (mkEnv_ok (gl := GL) (l := []) (q := []) (d := []) _ tyOk (by kernel_rfl) trivial trivial trivial) (by kernel_rfl) (by kernel_rfl)
def t137 : Prop :=
  ∀ (x : q6), (q88 x) -> List.length x.1 <= q153 -> q59 <= q89 /\ List.length [SV.dat Kd.str x.1] <= q89 /\ ∃ (I : q15), ∃ (μ : q16), (bs { data := #[] } = bs { data := #[] } /\ x.1 = x.1 /\
  I (q56, ()) ((), (x.1, ()), [], ())) /\ ∀ (y : q1) (z : q17), (q52 y) -> True /\ (wsZ z.2.1.1 /\ True) /\ (wyZ z.2.2.1 /\ True) -> I y z -> (decide (y.1 < (lnZ z.2.1.1)) = true -> (q56 <=
  y.1 /\ y.1 <= (lnZ z.2.1.1)) /\ True /\ (∀ (y_1 : q1), (q52 y_1) -> y_1.1 = idxB (List.drop (q58 y) z.2.1.1) (32 : Int) -> ∃ (J : Int × Unit -> Unit × Unit × Unit -> Prop), ((decide (y_1.1
  < q452) = true -> Value.bool true = Value.bool true /\ y.1 = y.1 /\ z.2.1.1 = z.2.1.1 /\ z.2.2.1 = z.2.2.1 /\ bs { data := #[] } = bs { data := #[] } /\ x.1 = x.1 /\ J (wrZ ((lnZ z.2.1.1) -
  y.1), ()) ((), (), ())) /\ (decide (y_1.1 < q452) = false -> Value.bool true = Value.bool true /\ y.1 = y.1 /\ z.2.1.1 = z.2.1.1 /\ z.2.2.1 = z.2.2.1 /\ bs { data := #[] } = bs { data :=
  #[] } /\ x.1 = x.1 /\ J (y_1.1, ()) ((), (), ()))) /\ ∀ (u : q1) (z_1 : Unit × Unit × Unit), (q52 u) -> True /\ True /\ True -> J u z_1 -> (q157 u) /\ (q157 u) /\ (q157 u) /\ (q157 u) /\
  (q157 u) /\ (decide (q160 u) = true -> (q158 u) = true /\ (q158 u) = true /\ True) /\ (decide (q160 u) = true -> (q158 u) = true /\ (q158 u) = true /\ (q158 u) = true /\ (q56 <= y.1 /\ y.1
  <= wrZ (y.1 + u.1) /\ wrZ (y.1 + u.1) <= (lnZ z.2.1.1)) /\ True) /\ (decide (q160 u) = true -> (q158 u) = true /\ (q158 u) = true /\ ∃ (J : Unit -> Unit × q161 × List Int × Unit -> Prop),
  ((decide (q56 < (lnZ z.2.2.1)) = true -> q91 < q59 /\ (List.length z.2.2.1 + q59) * q59 <= q152 /\ List.length z.2.2.1 + q59 <= q151 /\ List.drop (q58 y) (q156 y u z) = List.drop (q58 y)
  (q156 y u z) /\ List.drop (q58 y) (q156 y u z) = List.drop (q58 y) (q156 y u z) /\ bs { data := #[] } = bs { data := #[] } /\ x.1 = x.1 /\ List.drop (q58 y) (q156 y u z) = List.drop (q58 y)
  (q156 y u z) /\ Value.bool true = Value.bool true /\ decide (q160 u) = decide (q160 u) /\ u.1 = u.1 /\ u.1 = u.1 /\ Value.bool true = Value.bool true /\ y.1 = y.1 /\ bs { data := #[] } = bs
  { data := #[] } /\ x.1 = x.1 /\ J () ((), (z.2.1.1, ()), z.2.2.1 ++ [(32 : Int)], ())) /\ (decide (q56 < (lnZ z.2.2.1)) = false -> List.drop (q58 y) (q156 y u z) = List.drop (q58 y) (q156 y
  u z) /\ List.drop (q58 y) (q156 y u z) = List.drop (q58 y) (q156 y u z) /\ bs { data := #[] } = bs { data := #[] } /\ x.1 = x.1 /\ List.drop (q58 y) (q156 y u z) = List.drop (q58 y) (q156 y
  u z) /\ Value.bool true = Value.bool true /\ decide (q160 u) = decide (q160 u) /\ u.1 = u.1 /\ u.1 = u.1 /\ Value.bool true = Value.bool true /\ y.1 = y.1 /\ bs { data := #[] } = bs { data
  := #[] } /\ x.1 = x.1 /\ J () ((), (z.2.1.1, ()), z.2.2.1, ()))) /\ ∀ (u_1 : Unit) (z_2 : q17), True -> True /\ (wsZ z_2.2.1.1 /\ True) /\ (wyZ z_2.2.2.1 /\ True) -> J u_1 z_2 -> ∃ (I_1 :
  q15), ∃ (μ_1 : q16), ((q155 y u z) = (q155 y u z) /\ List.drop (q58 y) (q156 y u z) = List.drop (q58 y) (q156 y u z) /\ List.drop (q58 y) (q156 y u z) = List.drop (q58 y) (q156 y u z) /\ bs
  { data := #[] } = bs { data := #[] } /\ x.1 = x.1 /\ List.drop (q58 y) (q156 y u z) = List.drop (q58 y) (q156 y u z) /\ Value.bool true = Value.bool true /\ decide (q160 u) = decide (q160
  u) /\ u.1 = u.1 /\ u.1 = u.1 /\ Value.bool true = Value.bool true /\ y.1 = y.1 /\ bs { data := #[] } = bs { data := #[] } /\ x.1 = x.1 /\ I_1 (q56, ()) ((), (z_2.2.1.1, ()), z_2.2.2.1, ()))
  /\ ∀ (y_2 : q1) (z_3 : q17), (q52 y_2) -> True /\ (wsZ z_3.2.1.1 /\ True) /\ (wyZ z_3.2.2.1 /\ True) -> I_1 y_2 z_3 -> (decide (y_2.1 < (q155 y u z)) = true -> (((q56 <= y_2.1 /\ y_2.1 <
  (q155 y u z)) /\ (True /\ (∀ (y_3 : q1), (q121 y_3) -> y_3.1 = smallD (q154 y u z y_2) -> ((q91 < q59 /\ (List.length z_3.2.2.1 + List.length [y_3.1]) * q59 <= q152 /\ List.length z_3.2.2.1
  + List.length [y_3.1] <= q151 /\ ((q155 y u z) = (q155 y u z) /\ List.drop (q58 y) (q156 y u z) = List.drop (q58 y) (q156 y u z) /\ List.drop (q58 y) (q156 y u z) = List.drop (q58 y) (q156
  y u z) /\ bs { data := #[] } = bs { data := #[] } /\ x.1 = x.1 /\ List.drop (q58 y) (q156 y u z) = List.drop (q58 y) (q156 y u z) /\ Value.bool true = Value.bool true /\ decide (q160 u) =
  decide (q160 u) /\ u.1 = u.1 /\ u.1 = u.1 /\ Value.bool true = Value.bool true /\ y.1 = y.1 /\ bs { data := #[] } = bs { data := #[] } /\ x.1 = x.1 /\ I_1 (wrZ (q159 y_2), ()) ((),
  (z_3.2.1.1, ()), z_3.2.2.1 ++ [y_3.1], ()) /\ μ_1 (wrZ (q159 y_2), ()) ((), (z_3.2.1.1, ()), z_3.2.2.1 ++ [y_3.1], ()) < μ_1 y_2 z_3) /\ True) /\ True) /\ True) /\ True) /\ True) /\ True)
  /\ ((q56 <= y_2.1 /\ y_2.1 < (q155 y u z)) /\ ((True /\ (∀ (y_3 : q1), (q121 y_3) -> y_3.1 = smallD (q154 y u z y_2) -> ((q91 < q59 /\ (List.length z_3.2.2.1 + List.length [y_3.1]) * q59 <=
  q152 /\ List.length z_3.2.2.1 + List.length [y_3.1] <= q151 /\ ((q155 y u z) = (q155 y u z) /\ List.drop (q58 y) (q156 y u z) = List.drop (q58 y) (q156 y u z) /\ List.drop (q58 y) (q156 y u
  z) = List.drop (q58 y) (q156 y u z) /\ bs { data := #[] } = bs { data := #[] } /\ x.1 = x.1 /\ List.drop (q58 y) (q156 y u z) = List.drop (q58 y) (q156 y u z) /\ Value.bool true =
  Value.bool true /\ decide (q160 u) = decide (q160 u) /\ u.1 = u.1 /\ u.1 = u.1 /\ Value.bool true = Value.bool true /\ y.1 = y.1 /\ bs { data := #[] } = bs { data := #[] } /\ x.1 = x.1 /\
  I_1 (wrZ (q159 y_2), ()) ((), (z_3.2.1.1, ()), z_3.2.2.1 ++ [y_3.1], ()) /\ μ_1 (wrZ (q159 y_2), ()) ((), (z_3.2.1.1, ()), z_3.2.2.1 ++ [y_3.1], ()) < μ_1 y_2 z_3) /\ True) /\ True) /\
  True) /\ True) /\ True) /\ (True /\ (∀ (y_3 : q1), (q121 y_3) -> y_3.1 = smallD (q154 y u z y_2) -> (((q91 < q59 /\ (List.length z_3.2.2.1 + List.length [y_3.1]) * q59 <= q152 /\
  List.length z_3.2.2.1 + List.length [y_3.1] <= q151 /\ ((q155 y u z) = (q155 y u z) /\ List.drop (q58 y) (q156 y u z) = List.drop (q58 y) (q156 y u z) /\ List.drop (q58 y) (q156 y u z) =
  List.drop (q58 y) (q156 y u z) /\ bs { data := #[] } = bs { data := #[] } /\ x.1 = x.1 /\ List.drop (q58 y) (q156 y u z) = List.drop (q58 y) (q156 y u z) /\ Value.bool true = Value.bool
  true /\ decide (q160 u) = decide (q160 u) /\ u.1 = u.1 /\ u.1 = u.1 /\ Value.bool true = Value.bool true /\ y.1 = y.1 /\ bs { data := #[] } = bs { data := #[] } /\ x.1 = x.1 /\ I_1 (wrZ
  (q159 y_2), ()) ((), (z_3.2.1.1, ()), z_3.2.2.1 ++ [y_3.1], ()) /\ μ_1 (wrZ (q159 y_2), ()) ((), (z_3.2.1.1, ()), z_3.2.2.1 ++ [y_3.1], ()) < μ_1 y_2 z_3) /\ True) /\ True) /\ True) /\
  (((q91 < q59 /\ (List.length z_3.2.2.1 + List.length [y_3.1]) * q59 <= q152 /\ List.length z_3.2.2.1 + List.length [y_3.1] <= q151 /\ ((q155 y u z) = (q155 y u z) /\ List.drop (q58 y) (q156
  y u z) = List.drop (q58 y) (q156 y u z) /\ List.drop (q58 y) (q156 y u z) = List.drop (q58 y) (q156 y u z) /\ bs { data := #[] } = bs { data := #[] } /\ x.1 = x.1 /\ List.drop (q58 y) (q156
  y u z) = List.drop (q58 y) (q156 y u z) /\ Value.bool true = Value.bool true /\ decide (q160 u) = decide (q160 u) /\ u.1 = u.1 /\ u.1 = u.1 /\ Value.bool true = Value.bool true /\ y.1 = y.1
  /\ bs { data := #[] } = bs { data := #[] } /\ x.1 = x.1 /\ I_1 (wrZ (q159 y_2), ()) ((), (z_3.2.1.1, ()), z_3.2.2.1 ++ [y_3.1], ()) /\ μ_1 (wrZ (q159 y_2), ()) ((), (z_3.2.1.1, ()),
  z_3.2.2.1 ++ [y_3.1], ()) < μ_1 y_2 z_3) /\ True) /\ True) /\ True) /\ True) /\ True) /\ True) /\ True) /\ (decide (y_2.1 < (q155 y u z)) = false -> bs { data := #[] } = bs { data := #[] }
  /\ x.1 = x.1 /\ I (wrZ (y.1 + wrZ (q159 u)), ()) ((), (z_3.2.1.1, ()), z_3.2.2.1, ()) /\ μ (wrZ (y.1 + wrZ (q159 u)), ()) ((), (z_3.2.1.1, ()), z_3.2.2.1, ()) < μ y z)) /\ (decide (q160 u)
  = !true -> bs { data := #[] } = bs { data := #[] } /\ x.1 = x.1 /\ I (wrZ (y.1 + wrZ (q159 u)), ()) ((), (z.2.1.1, ()), z.2.2.1, ()) /\ μ (wrZ (y.1 + wrZ (q159 u)), ()) ((), (z.2.1.1, ()),
  z.2.2.1, ()) < μ y z)) /\ True) /\ (decide (y.1 < (lnZ z.2.1.1)) = false -> z.2.2.1 = foldD x.1)
theorem e137 : t137 = Con.vc c_text_Fold GL (mkEnv ty [(151, i151), (152, conSem c_text_small)] [(157, i157)] [] [0, 2, 3, 4, 5, 7, 8, 11, 16, 17, 18]) {joins := [6]} Tryz.f137.ntmps Tryz.f137.results.toList (bodyOf Tryz.f137) := by kernel_rfl
theorem k137 : t137 := by
  unfold t137
  delta q6 q88 q153 q59 q89 q15 q16 q56 q1 q17 q52 wsZ wyZ lnZ q58 q452 wrZ q157 q160 q158 q161 q91 q152 q151 q156 q155 q121 q154 q159 wiZ q553 q491
  rintro ⟨l, _⟩ hx hp
  have hw : Kd.wf Kd.str l := hx.1
  have hp : l.length ≤ 100000000 := hp
  try dsimp +instances only [dft_int, dft_sl, dft_str]
  simp only [true_and, and_true, eq_self_iff_true, implies_true, reduceCtorEq, false_implies, true_implies, decide_eq_true_eq, decide_eq_false_iff_not, beq_self_eq_true, Bool.not_eq_true', ne_eq, Decidable.not_not, List.nil_append, List.length_singleton, List.length_cons, List.length_nil, Nat.zero_add, Nat.add_zero, Nat.mul_one, and_self, beq_iff_eq, Bool.not_true, Bool.not_false, Bool.not_eq_false', Bool.cond_false_right, Bool.and_eq_true, imp_self, Bool.not_eq_true, Bool.cond_true_left, Bool.or_eq_true]
  refine ⟨by decide, by decide, fun y z => 0 ≤ y.1 ∧ y.1 ≤ l.length + 1 ∧ z.2.1.1 = l ∧ (z.2.2.1.length : Int) ≤ 2 * y.1 ∧ foldD l = joinF z.2.2.1 (wordsA [] (l.drop y.1.toNat)), fun y _ => ((l.length : Int) + 1 - y.1).toNat, ⟨by decide, by omega, rfl, by simp, rfl⟩, ?_⟩
  rintro ⟨i, _⟩ ⟨_, ⟨m, _⟩, b, _⟩ _ _ ⟨h0, h1, h2, h3, h4⟩
  simp only at h0 h1 h2 h3 h4 ⊢
  subst h2
  refine ⟨fun hlt => ⟨⟨h0, by omega⟩, ?_⟩, fun hge => ?_⟩
  rotate_left
  . rw [h4, List.drop_of_length_le (by omega), words_end]; rfl
  rintro ⟨k, _⟩ _ ek
  simp only at ek ⊢
  have hdl : (m.drop i.toNat).length = m.length - i.toNat := by simp
  refine ⟨fun u _ => idxB (m.drop i.toNat) 32 < 0 ∧ u.1 = (m.drop i.toNat).length ∨ 0 ≤ idxB (m.drop i.toNat) 32 ∧ u.1 = idxB (m.drop i.toNat) 32, ⟨fun h => .inl ⟨by omega, ?_⟩, fun h => .inr ⟨by omega, ek⟩⟩, ?_⟩
  . rw [hdl]
    have : IntKind.wrap .i64 ((m.length : Int) - i) = m.length - i := wrapK _ (by omega) (by omega)
    rw [this]; omega
  rintro ⟨n, _⟩ _ _ hJ
  obtain ⟨n0, n1, n2⟩ := idx_split hJ
  clear hJ
  simp only at n0 n1 n2 ⊢
  rw [hdl] at n1
  have e1 : IntKind.wrap .i64 (n + 1) = n + 1 := wrapK _ (by omega) (by omega)
  have e2 : IntKind.wrap .i64 (i + (n + 1)) = i + (n + 1) := wrapK _ (by omega) (by omega)
  have e3 : IntKind.wrap .i64 (i + n) = i + n := wrapK _ (by omega) (by omega)
  rw [e1, e2, e3]
  have e4 : (i + (n + 1)).toNat = i.toNat + (n.toNat + 1) := by omega
  have e5 : (i + n).toNat = i.toNat + n.toNat := by omega
  rw [List.drop_drop, ← e4] at n2
  refine ⟨fun h => ⟨h, h, h, h0, by omega, by omega⟩, fun h => ⟨h, h, ?_⟩, fun h => ⟨⟨by omega, by omega, trivial, by omega, ?_⟩, by omega⟩⟩
  rotate_left
  . rw [h4, n2, if_pos (by omega), List.nil_append]
  rw [if_neg (by omega)] at n2
  have ew : (m.take (i + n).toNat).drop i.toNat = (m.drop i.toNat).take n.toNat := by rw [e5, List.drop_take, Nat.add_sub_cancel_left]
  rw [ew]
  have hwl : ((m.drop i.toNat).take n.toNat).length = n.toNat := by rw [List.length_take, hdl]; omega
  generalize (m.drop i.toNat).take n.toNat = w at n2 hwl ⊢
  refine ⟨fun _ z => z.2.1.1 = m ∧ z.2.2.1 = b ++ (if b = [] then [] else [32]), ⟨fun hb => ⟨by decide, by omega, by omega, rfl, ?_⟩, fun hb => ⟨rfl, ?_⟩⟩, ?_⟩
  . rw [if_neg (fun e => by rw [e] at hb; simp at hb)]
  . have : b = [] := List.eq_nil_of_length_eq_zero (by omega)
    subst this; rfl
  rintro _ ⟨_, ⟨m2, _⟩, c, _⟩ _ ⟨em, ec⟩
  simp only at em ec ⊢
  subst em
  have hcl : (c.length : Int) ≤ 2 * i + 1 := by
    rw [ec, List.length_append]
    split <;> simp <;> omega
  refine ⟨fun y z => 0 ≤ y.1 ∧ y.1 ≤ w.length ∧ z.2.1.1 = m2 ∧ z.2.2.1 = c ++ (w.take y.1.toNat).map smallD, fun y _ => ((w.length : Int) - y.1).toNat, ⟨by decide, by omega, rfl, by simp⟩, ?_⟩
  rintro ⟨j, _⟩ ⟨_, ⟨m3, _⟩, d, _⟩ _ _ ⟨j0, j1, em3, ed⟩
  simp only at j0 j1 em3 ed ⊢
  subst em3
  have hdl : (d.length : Int) = c.length + j := by
    rw [ed, List.length_append, List.length_map, List.length_take]
    omega
  refine ⟨fun hlt => ⟨⟨j0, hlt⟩, ?_⟩, fun hge => ⟨⟨by omega, by omega, rfl, by omega, ?_⟩, by omega⟩⟩
  . rintro ⟨s, _⟩ _ es
    simp only at es ⊢
    have e6 : IntKind.wrap .i64 (j + 1) = j + 1 := wrapK _ (by omega) (by omega)
    rw [e6]
    refine ⟨by decide, by omega, by omega, ⟨by omega, by omega, trivial, ?_⟩, by omega⟩
    rw [show (j + 1).toNat = j.toNat + 1 by omega, take_snoc w j.toNat (by omega), List.map_append, ed, es, List.append_assoc]
    rfl
  . rw [h4, n2, List.singleton_append, joinF, ed, ec, List.take_of_length_le (by omega)]
theorem h137 : c_text_Fold.ok Tryz.prog GL 137 := con_ok (H := {joins := [6]}) (mkEnv_ok (gl := GL) (l := [(151, i151), (152, conSem c_text_small)]) (q := [(157, i157)]) (d := []) _ tyOk (by kernel_rfl) ⟨i151_ok, h152.call, trivial⟩ ⟨i157_ok, trivial⟩ trivial) (by kernel_rfl) (by kernel_rfl) (Eq.mp e137 k137)
def t98 : Prop :=
  ∀ (x : q6), (q88 x) -> List.length x.1 <= q153 -> List.length x.1 <= q153 /\ (∀ (y : q14), (q149 y) -> y.1 = wordsD x.1 -> ∃ (I : q18), ∃ (μ : q19), (bs { data := #[] } = bs { data := #[] }
  /\ x.1 = x.1 /\ y.1 = y.1 /\ I (q56, ()) ([], ())) /\ ∀ (y_1 : q1) (z : q6), (q52 y_1) -> (q165 z) -> I y_1 z -> (decide (y_1.1 < (lnZ y.1)) = true -> ∃ (J : Unit -> List Int × Unit ->
  Prop), ((decide (q160 y_1) = true -> q91 < q59 /\ (List.length z.1 + q59) * q59 <= q152 /\ List.length z.1 + q59 <= q151 /\ Value.bool true = Value.bool true /\ y_1.1 = y_1.1 /\ bs { data
  := #[] } = bs { data := #[] } /\ x.1 = x.1 /\ y.1 = y.1 /\ J () (z.1 ++ [(32 : Int)], ())) /\ (decide (q160 y_1) = false -> Value.bool true = Value.bool true /\ y_1.1 = y_1.1 /\ bs { data
  := #[] } = bs { data := #[] } /\ x.1 = x.1 /\ y.1 = y.1 /\ J () (z.1, ()))) /\ ∀ (u : Unit) (z_1 : q6), True -> (q165 z_1) -> J u z_1 -> ∃ (I_1 : q18), ∃ (μ_1 : q19), (Value.bool true =
  Value.bool true /\ y_1.1 = y_1.1 /\ bs { data := #[] } = bs { data := #[] } /\ x.1 = x.1 /\ y.1 = y.1 /\ I_1 (q56, ()) (z_1.1, ())) /\ ∀ (y_2 : q1) (z_2 : q6), (q52 y_2) -> (q165 z_2) ->
  I_1 y_2 z_2 -> (q56 <= y_1.1 /\ y_1.1 < (lnZ y.1)) /\ (decide (y_2.1 < (lnZ (q164 y y_1))) = true -> (q56 <= y_1.1 /\ y_1.1 < (lnZ y.1)) /\ (q56 <= y_2.1 /\ y_2.1 < (lnZ (q164 y y_1))) /\ ∃
  (J : q13), ((decide (q163 y y_1 y_2) = true -> True) /\ (decide (q163 y y_1 y_2) = true -> (decide (q163 y y_1 y_2) == true) = true /\ True) /\ (decide (q163 y y_1 y_2) = true -> (decide
  (q163 y y_1 y_2) == true) = true) /\ ((q162 y y_1 y_2) = true -> Value.bool true = Value.bool true /\ y_2.1 = y_2.1 /\ Value.bool true = Value.bool true /\ y_1.1 = y_1.1 /\ bs { data := #[]
  } = bs { data := #[] } /\ x.1 = x.1 /\ y.1 = y.1 /\ z_2.1 = z_2.1 /\ J (IntKind.wrap IntKind.u8 (List.getD (q164 y y_1) (q58 y_2) q56 + (32 : Int)), ()) ()) /\ ((q162 y y_1 y_2) = false ->
  Value.bool true = Value.bool true /\ y_2.1 = y_2.1 /\ Value.bool true = Value.bool true /\ y_1.1 = y_1.1 /\ bs { data := #[] } = bs { data := #[] } /\ x.1 = x.1 /\ y.1 = y.1 /\ z_2.1 =
  z_2.1 /\ J (List.getD (q164 y y_1) (q58 y_2) q56, ()) ())) /\ ∀ (u : q1) (z : Unit), (q121 u) -> True -> J u z -> q91 < q59 /\ (List.length z_2.1 + List.length [u.1]) * q59 <= q152 /\
  List.length z_2.1 + List.length [u.1] <= q151 /\ Value.bool true = Value.bool true /\ y_1.1 = y_1.1 /\ bs { data := #[] } = bs { data := #[] } /\ x.1 = x.1 /\ y.1 = y.1 /\ I_1 (wrZ (q159
  y_2), ()) (z_2.1 ++ [u.1], ()) /\ μ_1 (wrZ (q159 y_2), ()) (z_2.1 ++ [u.1], ()) < μ_1 y_2 z_2) /\ (decide (y_2.1 < (lnZ (q164 y y_1))) = false -> bs { data := #[] } = bs { data := #[] } /\
  x.1 = x.1 /\ y.1 = y.1 /\ I (wrZ (q159 y_1), ()) (z_2.1, ()) /\ μ (wrZ (q159 y_1), ()) (z_2.1, ()) < μ y_1 z)) /\ (decide (y_1.1 < (lnZ y.1)) = false -> z.1 = foldD x.1)) /\ True
theorem e98 : t98 = Con.vc c_r05_Fold GL (mkEnv ty [(116, conSem c_r05_Words)] [] [] [0, 2, 3, 4, 5, 6, 7, 13, 17, 27, 41]) {joins := [8,14]} Tryz.f98.ntmps Tryz.f98.results.toList (bodyOf Tryz.f98) := by kernel_rfl
theorem k98 : t98 := by
  unfold t98
  delta q6 q88 q153 q14 q149 q18 q19 q56 q1 q52 q165 lnZ q160 q91 q59 q152 q151 q164 q13 q163 q162 q58 q121 wrZ q159 wsZ wiZ wyZ q452 q555 q553 q491
  rintro ⟨l, _⟩ hx hp
  have hw : Kd.wf Kd.str l := hx.1
  have hp : l.length ≤ 100000000 := hp
  try dsimp +instances only [dft_int, dft_sl, dft_str]
  simp only [true_and, and_true, eq_self_iff_true, implies_true, reduceCtorEq, false_implies, true_implies, decide_eq_true_eq, decide_eq_false_iff_not, beq_self_eq_true, Bool.not_eq_true', ne_eq, Decidable.not_not, List.nil_append, List.length_singleton, List.length_cons, List.length_nil, Nat.zero_add, Nat.add_zero, Nat.mul_one, and_self, beq_iff_eq, Bool.not_true, Bool.not_false, Bool.not_eq_false', Bool.cond_false_right, Bool.and_eq_true, imp_self, Bool.not_eq_true, Bool.cond_true_left, Bool.or_eq_true]
  refine ⟨hp, ?_⟩
  rintro ⟨W, _⟩ hWf eW
  have hWl : W.length ≤ 9223372036854775807 := hWf.1
  simp only at eW ⊢
  have hg : ∀ w ∈ W, good w := fun w hw => words_good l [] (fun c hc => by cases hc) w (by rw [← wordsD, ← eW]; exact hw)
  have hlen : ∀ n, (joinF [] (W.take n)).length ≤ l.length := fun n => by
    have h1 := fold_len l
    have h2 : foldD l = joinF (joinF [] (W.take n)) (W.drop n) := by rw [← joinF_app, List.take_append_drop, foldD, ← eW]
    have h3 := joinF_len (W.drop n) (joinF [] (W.take n))
    rw [← h2] at h3
    omega
  refine ⟨fun y z => 0 ≤ y.1 ∧ y.1 ≤ W.length ∧ z.1 = joinF [] (W.take y.1.toNat), fun y _ => ((W.length : Int) - y.1).toNat, ⟨by decide, by omega, rfl⟩, ?_⟩
  rintro ⟨i, _⟩ ⟨b, _⟩ _ _ ⟨i0, i1, eb⟩
  simp only at i0 i1 eb ⊢
  refine ⟨fun hlt => ?_, fun hge => ?_⟩
  rotate_left
  . rw [eb, List.take_of_length_le (by omega), foldD, ← eW]
  have hbl : b.length ≤ l.length := by rw [eb]; exact hlen _
  have hn : joinF [] (W.take (i.toNat + 1)) = (b ++ if b = [] then [] else [32]) ++ (W.getD i.toNat []).map smallD := by
    rw [take_snocB W [] _ (by omega), joinF_app, ← eb]
    rfl
  have hnl := hlen (i.toNat + 1)
  rw [hn] at hnl
  simp only [List.length_append, List.length_map] at hnl
  generalize W.getD i.toNat [] = w at hn hnl ⊢
  refine ⟨fun _ z => z.1 = b ++ if b = [] then [] else [32], ⟨fun hi => ⟨by decide, by omega, by omega, ?_⟩, fun hi => ?_⟩, ?_⟩
  . have : b ≠ [] := by rw [eb]; exact joinF_ne hg (by omega) (by omega)
    rw [if_neg this]
  . have : b = [] := by rw [eb, show i.toNat = 0 by omega]; rfl
    subst this
    rfl
  rintro _ ⟨c, _⟩ _ ec
  simp only at ec ⊢
  have hcl := congrArg List.length ec
  rw [List.length_append] at hcl
  refine ⟨fun y z => 0 ≤ y.1 ∧ y.1 ≤ w.length ∧ z.1 = c ++ (w.take y.1.toNat).map smallD, fun y _ => ((w.length : Int) - y.1).toNat, ⟨by decide, by omega, by simp⟩, ?_⟩
  rintro ⟨j, _⟩ ⟨d, _⟩ _ _ ⟨j0, j1, ed⟩
  simp only at j0 j1 ed ⊢
  have hdl : (d.length : Int) = c.length + j := by
    rw [ed, List.length_append, List.length_map, List.length_take]
    omega
  have e1 : IntKind.wrap .i64 (j + 1) = j + 1 := wrapK _ (by omega) (by omega)
  have e2 : IntKind.wrap .i64 (i + 1) = i + 1 := wrapM _ (by omega) (by omega)
  rw [e1, e2]
  refine ⟨⟨i0, hlt⟩, fun hj => ⟨⟨i0, hlt⟩, ⟨j0, hj⟩, fun u _ => u.1 = smallD (w.getD j.toNat 0), ⟨fun h => ?_, fun h => ?_⟩, ?_⟩, fun hj => ⟨⟨by omega, by omega, ?_⟩, by omega⟩⟩
  . simp only
    rw [smallD, if_pos h]
    generalize w.getD j.toNat 0 = c at h ⊢
    simp [IntKind.wrap, IntKind.signed, IntKind.bits]
    omega
  . simp only
    rw [smallD, if_neg (by simp only [Bool.and_eq_false_iff, decide_eq_false_iff_not] at h; omega)]
  . rintro ⟨s, _⟩ _ _ es
    simp only at es ⊢
    refine ⟨by decide, by omega, by omega, ⟨by omega, by omega, ?_⟩, by omega⟩
    rw [show (j + 1).toNat = j.toNat + 1 by omega, take_snoc w j.toNat (by omega), List.map_append, ed, es, List.append_assoc]
    rfl
  . rw [show (i + 1).toNat = i.toNat + 1 by omega, hn, ed, ec, List.take_of_length_le (by omega)]
theorem h98 : c_r05_Fold.ok Tryz.prog GL 98 := con_ok (H := {joins := [8,14]}) (mkEnv_ok (gl := GL) (l := [(116, conSem c_r05_Words)]) (q := []) (d := []) _ tyOk (by kernel_rfl) ⟨h116.call, trivial⟩ trivial trivial) (by kernel_rfl) (by kernel_rfl) (Eq.mp e98 k98)
def t115 : Prop :=
  ∀ (x : q2), (q53 x) -> List.length x.1 <= q153 /\ List.length x.2.1 <= q153 -> List.length x.1 <= q153 /\ (∀ (y : q6), (q88 y) -> y.1 = foldD x.1 -> List.length x.2.1 <= q153 /\ (∀ (y_1 :
  q6), (q88 y_1) -> y_1.1 = foldD x.2.1 -> decide (y.1 = y_1.1) = decide (foldD x.1 = foldD x.2.1)) /\ True) /\ True
theorem e115 : t115 = Con.vc c_text_Same GL (mkEnv ty [(137, conSem c_text_Fold)] [] [] [0, 1, 4]) {} Tryz.f115.ntmps Tryz.f115.results.toList (bodyOf Tryz.f115) := by kernel_rfl
theorem k115 : t115 := by
  unfold t115
  delta q2 q53 q153 q6 q88 wsZ
  rintro ⟨l, m, _⟩ hx ⟨h1, h2⟩
  try dsimp +instances only [dft_int, dft_sl, dft_str]
  simp only [true_and, and_true, eq_self_iff_true, implies_true, reduceCtorEq, false_implies, true_implies, decide_eq_true_eq, decide_eq_false_iff_not, beq_self_eq_true, Bool.not_eq_true', ne_eq, Decidable.not_not, List.nil_append, List.length_singleton, List.length_cons, List.length_nil, Nat.zero_add, Nat.add_zero, Nat.mul_one, and_self, beq_iff_eq, Bool.not_true, Bool.not_false, Bool.not_eq_false', Bool.cond_false_right, Bool.and_eq_true, imp_self, Bool.not_eq_true, Bool.cond_true_left, Bool.or_eq_true]
  refine ⟨h1, ?_⟩
  rintro ⟨a, _⟩ _ ea
  refine ⟨h2, ?_⟩
  rintro ⟨b, _⟩ _ eb
  simp only at ea eb ⊢
  subst ea eb
  rfl
theorem h115 : c_text_Same.ok Tryz.prog GL 115 := con_ok (H := {}) (mkEnv_ok (gl := GL) (l := [(137, conSem c_text_Fold)]) (q := []) (d := []) _ tyOk (by kernel_rfl) ⟨h137.call, trivial⟩ trivial trivial) (by kernel_rfl) (by kernel_rfl) (Eq.mp e115 k115)
end Go.Proofs.YtgnlcpoeepfdoaaGreatDoor
end
