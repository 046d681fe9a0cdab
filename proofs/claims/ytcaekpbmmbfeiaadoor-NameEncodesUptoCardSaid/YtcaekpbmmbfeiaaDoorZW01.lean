/- Texts of a verified walk, led together: Gl12A, Gl12W, StrsA, StrsW, TextA. -/
import Derived.Test.YtcaekpbmmbfeiaaDoorZV05
import Derived.Test.YtcaekpbmmbfeiaaDoorZTy
import Derived.Test.YtcaekpbmmbfeiaaDoorZV06
import Derived.Test.YtcaekpbmmbfeiaaDoorZShelf
set_option linter.unusedVariables false
set_option linter.unusedSimpArgs false
section
/- Contracts. -/
namespace Go.Proofs.YtcaekpbmmbfeiaaDoor
open Go Go.Vc Go.Pl Go.Proofs
def GL : Gl := [(1, .arr U8 Lib.firstTab), (2, .arr (.pair U8 U8) accTab), (0, .num .i64)]

end Go.Proofs.YtcaekpbmmbfeiaaDoor
end
section
/- Walks. -/
namespace Go.Proofs.YtcaekpbmmbfeiaaDoor
open Go Go.Vc Go.Pl Go.Proofs
end Go.Proofs.YtcaekpbmmbfeiaaDoor
end
section
/- Contracts. -/
namespace Go.Proofs.YtcaekpbmmbfeiaaDoor
open Go Go.Vc Go.Pl Go.Proofs
def c_bytealg_IndexByteString : Con := { args := [Kd.str, U8].map .dat, res := [.dat I64], pre := fun _ => True, post := fun x y => y.1 = idxB x.1 x.2.1 }
def c_stringslite_IndexByte : Con := { args := [.dat .str, .dat U8], res := [.dat I64], pre := fun _ => True, post := fun x y => y.1 = idxB x.1 x.2.1 }
def c_strings_IndexByte : Con := { args := [.dat .str, .dat U8], res := [.dat I64], pre := fun _ => True, post := fun x y => y.1 = idxB x.1 x.2.1 }
def c_stringslite_Index : Con := { args := [Kd.str, Kd.str].map .dat, res := [I64].map .dat, pre := fun x => x.1.length < 4294967281, post := fun x y => y.1 = idxS x.1 x.2.1 }
def c_strings_Index : Con := { args := [.dat .str, .dat .str], res := [.dat I64], pre := fun x => x.1.length < 4294967281, post := fun x y => y.1 = idxS x.1 x.2.1 }
def c_strings_Contains : Con := { args := [.dat .str, .dat .str], res := [.dat .bool], pre := fun x => x.1.length < 4294967281, post := fun x y => y.1 = decide (0 ≤ idxS x.1 x.2.1) }
def c_stringslite_Cut : Con := { args := [.dat .str, .dat .str], res := [.dat .str, .dat .str, .dat .bool], pre := fun x => x.1.length < 4294967281 ∧ x.2.1.length = 1, post := fun x y => y.1 = (cutD (x.2.1.getD 0 0) x.1).1 ∧ y.2.1 = (cutD (x.2.1.getD 0 0) x.1).2.1 ∧ y.2.2.1 = (cutD (x.2.1.getD 0 0) x.1).2.2 }
def c_strings_Cut : Con := { args := [.dat .str, .dat .str], res := [.dat .str, .dat .str, .dat .bool], pre := fun x => x.1.length < 4294967281 ∧ x.2.1.length = 1, post := fun x y => y.1 = (cutD (x.2.1.getD 0 0) x.1).1 ∧ y.2.1 = (cutD (x.2.1.getD 0 0) x.1).2.1 ∧ y.2.2.1 = (cutD (x.2.1.getD 0 0) x.1).2.2 }
def c_stringslite_HasPrefix : Con := { args := [.dat .str, .dat .str], res := [.dat .bool], pre := fun _ => True, post := fun x y => y.1 = hasP x.2.1 x.1 }
def c_stringslite_CutPrefix : Con := { args := [.dat .str, .dat .str], res := [.dat .str, .dat .bool], pre := fun _ => True, post := fun x y => y.1 = (if hasP x.2.1 x.1 then x.1.drop x.2.1.length else x.1) ∧ y.2.1 = hasP x.2.1 x.1 }
def c_strings_CutPrefix : Con := { args := [.dat .str, .dat .str], res := [.dat .str, .dat .bool], pre := fun _ => True, post := fun x y => y.1 = (if hasP x.2.1 x.1 then x.1.drop x.2.1.length else x.1) ∧ y.2.1 = hasP x.2.1 x.1 }

end Go.Proofs.YtcaekpbmmbfeiaaDoor
end
section
/- Walks. -/
namespace Go.Proofs.YtcaekpbmmbfeiaaDoor
open Go Go.Vc Go.Pl Go.Proofs
set_option linter.unusedVariables false
set_option linter.unusedSimpArgs false
theorem h118 : CallOk Tryd.prog GL 118 (conSem c_bytealg_IndexByteString) := by
  refine ext_ok (ks := [Kd.str, U8]) (k := I64) rfl ?_
  rintro w F ⟨l, c, u⟩ vs h _
  obtain ⟨v1, r1, rfl, h1, v2, r2, rfl, h2, rfl⟩ := h
  obtain ⟨s, rfl, rfl, hs⟩ := VRep_str.1 h1
  obtain ⟨rfl, hc⟩ := VRep_int.1 h2
  have hc2 : 0 ≤ c ∧ c ≤ 255 := inr_u8.1 hc
  refine ⟨_, (Lib.indexByte s.data.toList c.toNat.toUInt8 : Int), ?_, idxB_lib _ _ hc2, VRep_int.2 ⟨rfl, ?_⟩⟩
  · rw [run_callFunc_extern Tryd.func118 (by kernel_rfl) (by kernel_rfl) (by kernel_rfl) (e := Extern.BytealgIndexByte.indexByte) (by kernel_rfl)]
    show ((Extern.BytealgIndexByte.indexByte #[.string s, .int .u8 c]).run Tryd.prog w).andThen _ = _
    rw [Lib.run_indexByteString]
    rfl
  · rw [idxB_lib _ _ hc2]
    have h1 := idxB_ge (bs s) c
    have h3 : s.size ≤ 9223372036854775807 := hs
    rw [bs_length] at h1
    show InR .i64 (idxB (bs s) c)
    generalize idxB (bs s) c = r at h1 ⊢
    simp [InR, IntKind.min, IntKind.max, IntKind.signed, IntKind.bits]
    omega
def t106 : Prop :=
  ∀ (x : List Int × Int × Unit), Kd.wf Kd.str x.fst ∧ Kd.wf (Kd.int IntKind.u8) x.snd.fst ∧ True → True → True ∧ (∀ (y : Int × Unit), Kd.wf (Kd.int IntKind.i64) y.fst ∧ True → y.fst = idxB
  x.fst x.snd.fst → y.fst = idxB x.fst x.snd.fst) ∧ True
theorem e106 : t106 = Con.vc c_stringslite_IndexByte GL (mkEnv ty [(118, conSem c_bytealg_IndexByteString)] [] [] [0, 1, 4]) {} Tryd.f106.ntmps Tryd.f106.results.toList (bodyOf Tryd.f106) := by kernel_rfl
theorem k106 : t106 := by
  unfold t106
  rintro ⟨l, c, _⟩ hx _
  try dsimp +instances only [dft_int, dft_sl, dft_str]
  simp only [true_and, and_true, eq_self_iff_true, implies_true, reduceCtorEq, false_implies, true_implies, decide_eq_true_eq, decide_eq_false_iff_not, beq_self_eq_true, Bool.not_eq_true', ne_eq, Decidable.not_not, List.nil_append, List.length_singleton, List.length_cons, List.length_nil, Nat.zero_add, Nat.add_zero, Nat.mul_one, and_self, beq_iff_eq, Bool.not_true, Bool.not_false, Bool.not_eq_false', Bool.cond_false_right, Bool.and_eq_true, imp_self, Bool.not_eq_true, Bool.cond_true_left, Bool.or_eq_true]
theorem h106 : c_stringslite_IndexByte.ok Tryd.prog GL 106 := con_ok (H := {}) (mkEnv_ok (gl := GL) (l := [(118, conSem c_bytealg_IndexByteString)]) (q := []) (d := []) _ tyOk (by kernel_rfl) ⟨h118, trivial⟩ trivial trivial) (by kernel_rfl) (by kernel_rfl) (Eq.mp e106 k106)

def t105 : Prop :=
  ∀ (x : List Int × Int × Unit), Kd.wf Kd.str x.fst ∧ Kd.wf (Kd.int IntKind.u8) x.snd.fst ∧ True → True → True ∧ (∀ (y : Int × Unit), Kd.wf (Kd.int IntKind.i64) y.fst ∧ True → y.fst = idxB
  x.fst x.snd.fst → y.fst = idxB x.fst x.snd.fst) ∧ True
theorem e105 : t105 = Con.vc c_strings_IndexByte GL (mkEnv ty [(106, conSem c_stringslite_IndexByte)] [] [] [0, 1, 4]) {} Tryd.f105.ntmps Tryd.f105.results.toList (bodyOf Tryd.f105) := by kernel_rfl
theorem k105 : t105 := by
  unfold t105
  rintro ⟨l, c, _⟩ hx _
  try dsimp +instances only [dft_int, dft_sl, dft_str]
  simp only [true_and, and_true, eq_self_iff_true, implies_true, reduceCtorEq, false_implies, true_implies, decide_eq_true_eq, decide_eq_false_iff_not, beq_self_eq_true, Bool.not_eq_true', ne_eq, Decidable.not_not, List.nil_append, List.length_singleton, List.length_cons, List.length_nil, Nat.zero_add, Nat.add_zero, Nat.mul_one, and_self, beq_iff_eq, Bool.not_true, Bool.not_false, Bool.not_eq_false', Bool.cond_false_right, Bool.and_eq_true, imp_self, Bool.not_eq_true, Bool.cond_true_left, Bool.or_eq_true]
theorem h105 : c_strings_IndexByte.ok Tryd.prog GL 105 := con_ok (H := {}) (mkEnv_ok (gl := GL) (l := [(106, conSem c_stringslite_IndexByte)]) (q := []) (d := []) _ tyOk (by kernel_rfl) ⟨h106.call, trivial⟩ trivial trivial) (by kernel_rfl) (by kernel_rfl) (Eq.mp e105 k105)

theorem h83 : c_stringslite_Index.ok Tryd.prog GL 83 := by
  refine lib_ok (ks := [Kd.str, Kd.str]) (rs := [I64]) Tryd.func83 (by kernel_rfl) (by decide) ?_
  rintro w F ⟨l, m, u⟩ vs h hg hp
  obtain ⟨v1, r1, rfl, h1, v2, r2, rfl, h2, rfl⟩ := h
  obtain ⟨s, rfl, rfl, hs⟩ := VRep_str.1 h1
  obtain ⟨t, rfl, rfl, ht⟩ := VRep_str.1 h2
  obtain ⟨_, _, k, hk⟩ := hg 0 (.num .i64) rfl
  have hp : (bs s).length < 4294967281 := hp
  rw [bs_length] at hp
  refine Calls.mono (Tryd.stringslite_Index s t k w hp hk) ?_
  rintro e w' ⟨rfl, rfl⟩
  have hb : ∀ s : ByteArray, Bys (bs s) := bs_range
  have e1 : Lib.index s.data.toList t.data.toList = idxS (bs s) (bs t) := by
    rw [← u8s_bs s, ← u8s_bs t, idxS_lib _ _ (hb s) (hb t)]
  rw [e1]
  have h1 := idxS_ge (bs s) (bs t)
  rw [bs_length] at h1
  refine ⟨Kept.refl _ _, [_], (idxS (bs s) (bs t), ()), rfl, rfl, _, [], rfl, VRep_int.2 ⟨rfl, ?_⟩, rfl⟩
  generalize idxS (bs s) (bs t) = r at h1 ⊢
  simp [InR, IntKind.min, IntKind.max, IntKind.signed, IntKind.bits]
  omega
def t115 : Prop :=
  ∀ (x : List Int × List Int × Unit), Kd.wf Kd.str x.fst ∧ Kd.wf Kd.str x.snd.fst ∧ True → List.length x.fst < (4294967281 : Nat) → List.length x.fst < (4294967281 : Nat) ∧ (∀ (y : Int ×
  Unit), Kd.wf (Kd.int IntKind.i64) y.fst ∧ True → y.fst = idxS x.fst x.snd.fst → y.fst = idxS x.fst x.snd.fst) ∧ True
theorem e115 : t115 = Con.vc c_strings_Index GL (mkEnv ty [(83, conSem c_stringslite_Index)] [] [] [0, 1, 4]) {} Tryd.f115.ntmps Tryd.f115.results.toList (bodyOf Tryd.f115) := by kernel_rfl
theorem k115 : t115 := by
  unfold t115
  rintro ⟨l, c, _⟩ hx hp
  try dsimp +instances only [dft_int, dft_sl, dft_str]
  simp only [true_and, and_true, eq_self_iff_true, implies_true, reduceCtorEq, false_implies, true_implies, decide_eq_true_eq, decide_eq_false_iff_not, beq_self_eq_true, Bool.not_eq_true', ne_eq, Decidable.not_not, List.nil_append, List.length_singleton, List.length_cons, List.length_nil, Nat.zero_add, Nat.add_zero, Nat.mul_one, and_self, beq_iff_eq, Bool.not_true, Bool.not_false, Bool.not_eq_false', Bool.cond_false_right, Bool.and_eq_true, imp_self, Bool.not_eq_true, Bool.cond_true_left, Bool.or_eq_true]
  exact hp
theorem h115 : c_strings_Index.ok Tryd.prog GL 115 := con_ok (H := {}) (mkEnv_ok (gl := GL) (l := [(83, conSem c_stringslite_Index)]) (q := []) (d := []) _ tyOk (by kernel_rfl) ⟨h83.call, trivial⟩ trivial trivial) (by kernel_rfl) (by kernel_rfl) (Eq.mp e115 k115)

def t59 : Prop :=
  ∀ (x : List Int × List Int × Unit), Kd.wf Kd.str x.fst ∧ Kd.wf Kd.str x.snd.fst ∧ True → List.length x.fst < (4294967281 : Nat) ∧ List.length x.snd.fst = (1 : Nat) → List.length x.fst <
  (4294967281 : Nat) ∧ (∀ (y : Int × Unit), Kd.wf (Kd.int IntKind.i64) y.fst ∧ True → y.fst = idxS x.fst x.snd.fst → (decide ((0 : Int) ≤ y.fst) = true → ((0 : Int) ≤ y.fst ∧ y.fst ≤
  (↑(List.length x.fst) : Int)) ∧ ((0 : Int) ≤ IntKind.wrap IntKind.i64 (y.fst + (↑(List.length x.snd.fst) : Int)) ∧ IntKind.wrap IntKind.i64 (y.fst + (↑(List.length x.snd.fst) : Int)) ≤
  (↑(List.length x.fst) : Int)) ∧ List.take (Int.toNat y.fst) x.fst = (cutD (List.getD x.snd.fst (0 : Nat) (0 : Int)) x.fst).fst ∧ List.drop (Int.toNat (IntKind.wrap IntKind.i64 (y.fst +
  (↑(List.length x.snd.fst) : Int)))) x.fst = (cutD (List.getD x.snd.fst (0 : Nat) (0 : Int)) x.fst).snd.fst ∧ true = (cutD (List.getD x.snd.fst (0 : Nat) (0 : Int)) x.fst).snd.snd) ∧ (decide
  ((0 : Int) ≤ y.fst) = false → x.fst = (cutD (List.getD x.snd.fst (0 : Nat) (0 : Int)) x.fst).fst ∧ bs { data := #[] } = (cutD (List.getD x.snd.fst (0 : Nat) (0 : Int)) x.fst).snd.fst ∧
  false = (cutD (List.getD x.snd.fst (0 : Nat) (0 : Int)) x.fst).snd.snd)) ∧ True
theorem e59 : t59 = Con.vc c_stringslite_Cut GL (mkEnv ty [(83, conSem c_stringslite_Index)] [] [] [0, 1, 4, 5, 6, 7, 12]) {} Tryd.f59.ntmps Tryd.f59.results.toList (bodyOf Tryd.f59) := by kernel_rfl
theorem k59 : t59 := by
  unfold t59
  rintro ⟨l, c, _⟩ hx hp
  have h1 : l.length < 4294967281 := hp.1
  have h2 : c.length = 1 := hp.2
  try dsimp +instances only [dft_int, dft_sl, dft_str]
  simp only [true_and, and_true, eq_self_iff_true, implies_true, reduceCtorEq, false_implies, true_implies, decide_eq_true_eq, decide_eq_false_iff_not, beq_self_eq_true, Bool.not_eq_true', ne_eq, Decidable.not_not, List.nil_append, List.length_singleton, List.length_cons, List.length_nil, Nat.zero_add, Nat.add_zero, Nat.mul_one, and_self, beq_iff_eq, Bool.not_true, Bool.not_false, Bool.not_eq_false', Bool.cond_false_right, Bool.and_eq_true, imp_self, Bool.not_eq_true, Bool.cond_true_left, Bool.or_eq_true]
  refine ⟨h1, ?_⟩
  rintro ⟨a, _⟩ _ ea
  simp only at ea ⊢
  obtain ⟨d, rfl⟩ : ∃ d, c = [d] := List.length_eq_one_iff.1 h2
  rw [idxS_one] at ea
  have hb := idxB_ge l d
  have hd : ([d] : List Int).getD 0 0 = d := rfl
  rw [hd, cutD_idx]
  have hw : IntKind.wrap .i64 (a + ([d] : List Int).length) = a + 1 := wrapK _ (by simp; omega) (by simp; omega)
  rw [hw, ea]
  refine ⟨fun h => ⟨⟨h, by omega⟩, ⟨by omega, by omega⟩, ?_⟩, fun h => ?_⟩
  · rw [if_pos h, show (idxB l d + 1).toNat = (idxB l d).toNat + 1 by omega]
    exact ⟨rfl, rfl, rfl⟩
  · rw [if_neg h]
    exact ⟨rfl, rfl, rfl⟩
theorem h59 : c_stringslite_Cut.ok Tryd.prog GL 59 := con_ok (H := {}) (mkEnv_ok (gl := GL) (l := [(83, conSem c_stringslite_Index)]) (q := []) (d := []) _ tyOk (by kernel_rfl) ⟨h83.call, trivial⟩ trivial trivial) (by kernel_rfl) (by kernel_rfl) (Eq.mp e59 k59)

def t36 : Prop :=
  ∀ (x : List Int × List Int × Unit), Kd.wf Kd.str x.fst ∧ Kd.wf Kd.str x.snd.fst ∧ True → List.length x.fst < (4294967281 : Nat) ∧ List.length x.snd.fst = (1 : Nat) → (List.length x.fst <
  (4294967281 : Nat) ∧ List.length x.snd.fst = (1 : Nat)) ∧ (∀ (y : List Int × List Int × Bool × Unit), Kd.wf Kd.str y.fst ∧ Kd.wf Kd.str y.snd.fst ∧ Kd.wf Kd.bool y.snd.snd.fst ∧ True →
  y.fst = (cutD (List.getD x.snd.fst (0 : Nat) (0 : Int)) x.fst).fst ∧ y.snd.fst = (cutD (List.getD x.snd.fst (0 : Nat) (0 : Int)) x.fst).snd.fst ∧ y.snd.snd.fst = (cutD (List.getD x.snd.fst
  (0 : Nat) (0 : Int)) x.fst).snd.snd → y.fst = (cutD (List.getD x.snd.fst (0 : Nat) (0 : Int)) x.fst).fst ∧ y.snd.fst = (cutD (List.getD x.snd.fst (0 : Nat) (0 : Int)) x.fst).snd.fst ∧
  y.snd.snd.fst = (cutD (List.getD x.snd.fst (0 : Nat) (0 : Int)) x.fst).snd.snd) ∧ True
theorem e36 : t36 = Con.vc c_strings_Cut GL (mkEnv ty [(59, conSem c_stringslite_Cut)] [] [] [0, 1, 4, 5, 6]) {} Tryd.f36.ntmps Tryd.f36.results.toList (bodyOf Tryd.f36) := by kernel_rfl
theorem k36 : t36 := by
  unfold t36
  rintro ⟨l, c, _⟩ hx hp
  try dsimp +instances only [dft_int, dft_sl, dft_str]
  simp only [true_and, and_true, eq_self_iff_true, implies_true, reduceCtorEq, false_implies, true_implies, decide_eq_true_eq, decide_eq_false_iff_not, beq_self_eq_true, Bool.not_eq_true', ne_eq, Decidable.not_not, List.nil_append, List.length_singleton, List.length_cons, List.length_nil, Nat.zero_add, Nat.add_zero, Nat.mul_one, and_self, beq_iff_eq, Bool.not_true, Bool.not_false, Bool.not_eq_false', Bool.cond_false_right, Bool.and_eq_true, imp_self, Bool.not_eq_true, Bool.cond_true_left, Bool.or_eq_true]
  exact hp
theorem h36 : c_strings_Cut.ok Tryd.prog GL 36 := con_ok (H := {}) (mkEnv_ok (gl := GL) (l := [(59, conSem c_stringslite_Cut)]) (q := []) (d := []) _ tyOk (by kernel_rfl) ⟨h59.call, trivial⟩ trivial trivial) (by kernel_rfl) (by kernel_rfl) (Eq.mp e36 k36)

end Go.Proofs.YtcaekpbmmbfeiaaDoor
end
section
/- Contracts. -/
namespace Go.Proofs.YtcaekpbmmbfeiaaDoor
open Go Go.Vc Go.Pl Go.Proofs
def c_utf8_DecodeRuneInString : Con := { args := [.dat .str], res := [.dat I32, .dat I64], pre := fun _ => True, post := fun x y => y.1 = (decD x.1).1 ∧ y.2.1 = (decD x.1).2 }
def c_utf8_decodeRuneInStringSlow : Con := { args := [.dat .str], res := [.dat I32, .dat I64], pre := fun _ => True, post := fun x y => y.1 = (decD x.1).1 ∧ y.2.1 = (decD x.1).2 }
def c_text_Valid : Con := { args := [.dat .str], res := [.dat I64], pre := fun _ => True, post := fun x y => y.1 = vld x.1 0 }
def c_r05_Valid : Con := { args := [.dat .str], res := [.dat I64], pre := fun x => x.1.length ≤ 1000000000, post := fun x y => y.1 = vld x.1 0 }
def c_r05_more : Con := { args := [.dat .str, .dat I64, .dat I64], res := [.dat .bool], pre := fun x => x.1.length ≤ 1000000000 ∧ 0 ≤ x.2.1 ∧ x.2.1 ≤ 1000000000 ∧ 0 ≤ x.2.2.1 ∧ x.2.2.1 ≤ 3, post := fun x y => y.1 = moreD x.1 x.2.1.toNat x.2.2.1.toNat }
def c_r05_character : Con := { args := [.dat .str, .dat I64], res := [.dat I64], pre := fun x => x.1.length ≤ 1000000000 ∧ 0 ≤ x.2.1 ∧ x.2.1 < x.1.length, post := fun x y => y.1 = chw x.1 x.2.1.toNat }
def c_text_small : Con := { args := [.dat U8], res := [.dat U8], pre := fun _ => True, post := fun x y => y.1 = smallD x.1 }
def c_text_prints : Con := { args := [.dat U8], res := [.dat .bool], pre := fun _ => True, post := fun x y => y.1 = printsD x.1 }
def c_r05_Prints : Con := { args := [.dat U8], res := [.dat .bool], pre := fun _ => True, post := fun x y => y.1 = printsD x.1 }
def c_r05_Words : Con := { args := [.dat .str], res := [.own 9 .str], pre := fun x => x.1.length ≤ 100000000, post := fun x y => y.1 = wordsD x.1 }
def c_text_Fold : Con := { args := [.dat .str], res := [.dat .str], pre := fun x => x.1.length ≤ 100000000, post := fun x y => y.1 = foldD x.1 }
def c_r05_Fold : Con := { args := [.dat .str], res := [.dat .str], pre := fun x => x.1.length ≤ 100000000, post := fun x y => y.1 = foldD x.1 }
def c_text_Same : Con := { args := [.dat .str, .dat .str], res := [.dat .bool], pre := fun x => x.1.length ≤ 100000000 ∧ x.2.1.length ≤ 100000000, post := fun x y => y.1 = decide (foldD x.1 = foldD x.2.1) }
def c_text_May : Con := { args := [.dat I64, .dat .str], res := [.dat .bool], pre := fun _ => True, post := fun x y => y.1 = mayD x.1 x.2.1 }
def c_r05_May : Con := { args := [.dat I64, .dat .str], res := [.dat .bool], pre := fun x => x.2.1.length ≤ 1000000000, post := fun x y => y.1 = mayD x.1 x.2.1 }
def c_text_Kind : Con := { args := [.dat .str], res := [.dat I64, .dat I64], pre := fun _ => True, post := fun x y => y.1 = (kindD x.1).1 ∧ y.2.1 = (kindD x.1).2 }
def c_r05_Kind : Con := { args := [.dat .str], res := [.dat I64, .dat I64], pre := fun x => x.1.length ≤ 1000000000, post := fun x y => y.1 = (kindD x.1).1 ∧ y.2.1 = (kindD x.1).2 }

end Go.Proofs.YtcaekpbmmbfeiaaDoor
end
