/- Texts of a verified walk, led together: Gl12A, Gl12W, StrsA, StrsW, TextA, TextW. -/
import Derived.Test.YtcaekpbmmbfeiaaDoorZV05
import Derived.Test.YtcaekpbmmbfeiaaDoorZTy
import Derived.Test.YtcaekpbmmbfeiaaDoorZV06
import Derived.Test.YtcaekpbmmbfeiaaDoorZShelf
set_option linter.unusedVariables false
set_option linter.unusedSimpArgs false
section
/- Contracts. -/
namespace Go.Proofs.YtcaekpbmmbfeiaaDoor
open Go Go.Vc Go.Pl Go.Proofs
def GL : Gl := [(1, .arr U8 Lib.firstTab), (2, .arr (.pair U8 U8) accTab), (0, .num .i64)]

end Go.Proofs.YtcaekpbmmbfeiaaDoor
end
section
/- Walks. -/
namespace Go.Proofs.YtcaekpbmmbfeiaaDoor
open Go Go.Vc Go.Pl Go.Proofs
end Go.Proofs.YtcaekpbmmbfeiaaDoor
end
section
/- Contracts. -/
namespace Go.Proofs.YtcaekpbmmbfeiaaDoor
open Go Go.Vc Go.Pl Go.Proofs
def c_bytealg_IndexByteString : Con := { args := [Kd.str, U8].map .dat, res := [.dat I64], pre := fun _ => True, post := fun x y => y.1 = idxB x.1 x.2.1 }
def c_stringslite_IndexByte : Con := { args := [.dat .str, .dat U8], res := [.dat I64], pre := fun _ => True, post := fun x y => y.1 = idxB x.1 x.2.1 }
def c_strings_IndexByte : Con := { args := [.dat .str, .dat U8], res := [.dat I64], pre := fun _ => True, post := fun x y => y.1 = idxB x.1 x.2.1 }
def c_stringslite_Index : Con := { args := [Kd.str, Kd.str].map .dat, res := [I64].map .dat, pre := fun x => x.1.length < 4294967281, post := fun x y => y.1 = idxS x.1 x.2.1 }
def c_strings_Index : Con := { args := [.dat .str, .dat .str], res := [.dat I64], pre := fun x => x.1.length < 4294967281, post := fun x y => y.1 = idxS x.1 x.2.1 }
def c_strings_Contains : Con := { args := [.dat .str, .dat .str], res := [.dat .bool], pre := fun x => x.1.length < 4294967281, post := fun x y => y.1 = decide (0 ≤ idxS x.1 x.2.1) }
def c_stringslite_Cut : Con := { args := [.dat .str, .dat .str], res := [.dat .str, .dat .str, .dat .bool], pre := fun x => x.1.length < 4294967281 ∧ x.2.1.length = 1, post := fun x y => y.1 = (cutD (x.2.1.getD 0 0) x.1).1 ∧ y.2.1 = (cutD (x.2.1.getD 0 0) x.1).2.1 ∧ y.2.2.1 = (cutD (x.2.1.getD 0 0) x.1).2.2 }
def c_strings_Cut : Con := { args := [.dat .str, .dat .str], res := [.dat .str, .dat .str, .dat .bool], pre := fun x => x.1.length < 4294967281 ∧ x.2.1.length = 1, post := fun x y => y.1 = (cutD (x.2.1.getD 0 0) x.1).1 ∧ y.2.1 = (cutD (x.2.1.getD 0 0) x.1).2.1 ∧ y.2.2.1 = (cutD (x.2.1.getD 0 0) x.1).2.2 }
def c_stringslite_HasPrefix : Con := { args := [.dat .str, .dat .str], res := [.dat .bool], pre := fun _ => True, post := fun x y => y.1 = hasP x.2.1 x.1 }
def c_stringslite_CutPrefix : Con := { args := [.dat .str, .dat .str], res := [.dat .str, .dat .bool], pre := fun _ => True, post := fun x y => y.1 = (if hasP x.2.1 x.1 then x.1.drop x.2.1.length else x.1) ∧ y.2.1 = hasP x.2.1 x.1 }
def c_strings_CutPrefix : Con := { args := [.dat .str, .dat .str], res := [.dat .str, .dat .bool], pre := fun _ => True, post := fun x y => y.1 = (if hasP x.2.1 x.1 then x.1.drop x.2.1.length else x.1) ∧ y.2.1 = hasP x.2.1 x.1 }

end Go.Proofs.YtcaekpbmmbfeiaaDoor
end
section
/- Walks. -/
namespace Go.Proofs.YtcaekpbmmbfeiaaDoor
open Go Go.Vc Go.Pl Go.Proofs
set_option linter.unusedVariables false
set_option linter.unusedSimpArgs false
theorem h118 : CallOk Tryd.prog GL 118 (conSem c_bytealg_IndexByteString) := by
  refine ext_ok (ks := [Kd.str, U8]) (k := I64) rfl ?_
  rintro w F ⟨l, c, u⟩ vs h _
  obtain ⟨v1, r1, rfl, h1, v2, r2, rfl, h2, rfl⟩ := h
  obtain ⟨s, rfl, rfl, hs⟩ := VRep_str.1 h1
  obtain ⟨rfl, hc⟩ := VRep_int.1 h2
  have hc2 : 0 ≤ c ∧ c ≤ 255 := inr_u8.1 hc
  refine ⟨_, (Lib.indexByte s.data.toList c.toNat.toUInt8 : Int), ?_, idxB_lib _ _ hc2, VRep_int.2 ⟨rfl, ?_⟩⟩
  · rw [run_callFunc_extern Tryd.func118 (by kernel_rfl) (by kernel_rfl) (by kernel_rfl) (e := Extern.BytealgIndexByte.indexByte) (by kernel_rfl)]
    show ((Extern.BytealgIndexByte.indexByte #[.string s, .int .u8 c]).run Tryd.prog w).andThen _ = _
    rw [Lib.run_indexByteString]
    rfl
  · rw [idxB_lib _ _ hc2]
    have h1 := idxB_ge (bs s) c
    have h3 : s.size ≤ 9223372036854775807 := hs
    rw [bs_length] at h1
    show InR .i64 (idxB (bs s) c)
    generalize idxB (bs s) c = r at h1 ⊢
    simp [InR, IntKind.min, IntKind.max, IntKind.signed, IntKind.bits]
    omega
def t106 : Prop :=
  ∀ (x : List Int × Int × Unit), Kd.wf Kd.str x.fst ∧ Kd.wf (Kd.int IntKind.u8) x.snd.fst ∧ True → True → True ∧ (∀ (y : Int × Unit), Kd.wf (Kd.int IntKind.i64) y.fst ∧ True → y.fst = idxB
  x.fst x.snd.fst → y.fst = idxB x.fst x.snd.fst) ∧ True
theorem e106 : t106 = Con.vc c_stringslite_IndexByte GL (mkEnv ty [(118, conSem c_bytealg_IndexByteString)] [] [] [0, 1, 4]) {} Tryd.f106.ntmps Tryd.f106.results.toList (bodyOf Tryd.f106) := by kernel_rfl
theorem k106 : t106 := by
  unfold t106
  rintro ⟨l, c, _⟩ hx _
  try dsimp +instances only [dft_int, dft_sl, dft_str]
  simp only [true_and, and_true, eq_self_iff_true, implies_true, reduceCtorEq, false_implies, true_implies, decide_eq_true_eq, decide_eq_false_iff_not, beq_self_eq_true, Bool.not_eq_true', ne_eq, Decidable.not_not, List.nil_append, List.length_singleton, List.length_cons, List.length_nil, Nat.zero_add, Nat.add_zero, Nat.mul_one, and_self, beq_iff_eq, Bool.not_true, Bool.not_false, Bool.not_eq_false', Bool.cond_false_right, Bool.and_eq_true, imp_self, Bool.not_eq_true, Bool.cond_true_left, Bool.or_eq_true]
theorem h106 : c_stringslite_IndexByte.ok Tryd.prog GL 106 := con_ok (H := {}) (mkEnv_ok (gl := GL) (l := [(118, conSem c_bytealg_IndexByteString)]) (q := []) (d := []) _ tyOk (by kernel_rfl) ⟨h118, trivial⟩ trivial trivial) (by kernel_rfl) (by kernel_rfl) (Eq.mp e106 k106)

def t105 : Prop :=
  ∀ (x : List Int × Int × Unit), Kd.wf Kd.str x.fst ∧ Kd.wf (Kd.int IntKind.u8) x.snd.fst ∧ True → True → True ∧ (∀ (y : Int × Unit), Kd.wf (Kd.int IntKind.i64) y.fst ∧ True → y.fst = idxB
  x.fst x.snd.fst → y.fst = idxB x.fst x.snd.fst) ∧ True
theorem e105 : t105 = Con.vc c_strings_IndexByte GL (mkEnv ty [(106, conSem c_stringslite_IndexByte)] [] [] [0, 1, 4]) {} Tryd.f105.ntmps Tryd.f105.results.toList (bodyOf Tryd.f105) := by kernel_rfl
theorem k105 : t105 := by
  unfold t105
  rintro ⟨l, c, _⟩ hx _
  try dsimp +instances only [dft_int, dft_sl, dft_str]
  simp only [true_and, and_true, eq_self_iff_true, implies_true, reduceCtorEq, false_implies, true_implies, decide_eq_true_eq, decide_eq_false_iff_not, beq_self_eq_true, Bool.not_eq_true', ne_eq, Decidable.not_not, List.nil_append, List.length_singleton, List.length_cons, List.length_nil, Nat.zero_add, Nat.add_zero, Nat.mul_one, and_self, beq_iff_eq, Bool.not_true, Bool.not_false, Bool.not_eq_false', Bool.cond_false_right, Bool.and_eq_true, imp_self, Bool.not_eq_true, Bool.cond_true_left, Bool.or_eq_true]
theorem h105 : c_strings_IndexByte.ok Tryd.prog GL 105 := con_ok (H := {}) (mkEnv_ok (gl := GL) (l := [(106, conSem c_stringslite_IndexByte)]) (q := []) (d := []) _ tyOk (by kernel_rfl) ⟨h106.call, trivial⟩ trivial trivial) (by kernel_rfl) (by kernel_rfl) (Eq.mp e105 k105)

theorem h83 : c_stringslite_Index.ok Tryd.prog GL 83 := by
  refine lib_ok (ks := [Kd.str, Kd.str]) (rs := [I64]) Tryd.func83 (by kernel_rfl) (by decide) ?_
  rintro w F ⟨l, m, u⟩ vs h hg hp
  obtain ⟨v1, r1, rfl, h1, v2, r2, rfl, h2, rfl⟩ := h
  obtain ⟨s, rfl, rfl, hs⟩ := VRep_str.1 h1
  obtain ⟨t, rfl, rfl, ht⟩ := VRep_str.1 h2
  obtain ⟨_, _, k, hk⟩ := hg 0 (.num .i64) rfl
  have hp : (bs s).length < 4294967281 := hp
  rw [bs_length] at hp
  refine Calls.mono (Tryd.stringslite_Index s t k w hp hk) ?_
  rintro e w' ⟨rfl, rfl⟩
  have hb : ∀ s : ByteArray, Bys (bs s) := bs_range
  have e1 : Lib.index s.data.toList t.data.toList = idxS (bs s) (bs t) := by
    rw [← u8s_bs s, ← u8s_bs t, idxS_lib _ _ (hb s) (hb t)]
  rw [e1]
  have h1 := idxS_ge (bs s) (bs t)
  rw [bs_length] at h1
  refine ⟨Kept.refl _ _, [_], (idxS (bs s) (bs t), ()), rfl, rfl, _, [], rfl, VRep_int.2 ⟨rfl, ?_⟩, rfl⟩
  generalize idxS (bs s) (bs t) = r at h1 ⊢
  simp [InR, IntKind.min, IntKind.max, IntKind.signed, IntKind.bits]
  omega
def t59 : Prop :=
  ∀ (x : List Int × List Int × Unit), Kd.wf Kd.str x.fst ∧ Kd.wf Kd.str x.snd.fst ∧ True → List.length x.fst < (4294967281 : Nat) ∧ List.length x.snd.fst = (1 : Nat) → List.length x.fst <
  (4294967281 : Nat) ∧ (∀ (y : Int × Unit), Kd.wf (Kd.int IntKind.i64) y.fst ∧ True → y.fst = idxS x.fst x.snd.fst → (decide ((0 : Int) ≤ y.fst) = true → ((0 : Int) ≤ y.fst ∧ y.fst ≤
  (↑(List.length x.fst) : Int)) ∧ ((0 : Int) ≤ IntKind.wrap IntKind.i64 (y.fst + (↑(List.length x.snd.fst) : Int)) ∧ IntKind.wrap IntKind.i64 (y.fst + (↑(List.length x.snd.fst) : Int)) ≤
  (↑(List.length x.fst) : Int)) ∧ List.take (Int.toNat y.fst) x.fst = (cutD (List.getD x.snd.fst (0 : Nat) (0 : Int)) x.fst).fst ∧ List.drop (Int.toNat (IntKind.wrap IntKind.i64 (y.fst +
  (↑(List.length x.snd.fst) : Int)))) x.fst = (cutD (List.getD x.snd.fst (0 : Nat) (0 : Int)) x.fst).snd.fst ∧ true = (cutD (List.getD x.snd.fst (0 : Nat) (0 : Int)) x.fst).snd.snd) ∧ (decide
  ((0 : Int) ≤ y.fst) = false → x.fst = (cutD (List.getD x.snd.fst (0 : Nat) (0 : Int)) x.fst).fst ∧ bs { data := #[] } = (cutD (List.getD x.snd.fst (0 : Nat) (0 : Int)) x.fst).snd.fst ∧
  false = (cutD (List.getD x.snd.fst (0 : Nat) (0 : Int)) x.fst).snd.snd)) ∧ True
theorem e59 : t59 = Con.vc c_stringslite_Cut GL (mkEnv ty [(83, conSem c_stringslite_Index)] [] [] [0, 1, 4, 5, 6, 7, 12]) {} Tryd.f59.ntmps Tryd.f59.results.toList (bodyOf Tryd.f59) := by kernel_rfl
theorem k59 : t59 := by
  unfold t59
  rintro ⟨l, c, _⟩ hx hp
  have h1 : l.length < 4294967281 := hp.1
  have h2 : c.length = 1 := hp.2
  try dsimp +instances only [dft_int, dft_sl, dft_str]
  simp only [true_and, and_true, eq_self_iff_true, implies_true, reduceCtorEq, false_implies, true_implies, decide_eq_true_eq, decide_eq_false_iff_not, beq_self_eq_true, Bool.not_eq_true', ne_eq, Decidable.not_not, List.nil_append, List.length_singleton, List.length_cons, List.length_nil, Nat.zero_add, Nat.add_zero, Nat.mul_one, and_self, beq_iff_eq, Bool.not_true, Bool.not_false, Bool.not_eq_false', Bool.cond_false_right, Bool.and_eq_true, imp_self, Bool.not_eq_true, Bool.cond_true_left, Bool.or_eq_true]
  refine ⟨h1, ?_⟩
  rintro ⟨a, _⟩ _ ea
  simp only at ea ⊢
  obtain ⟨d, rfl⟩ : ∃ d, c = [d] := List.length_eq_one_iff.1 h2
  rw [idxS_one] at ea
  have hb := idxB_ge l d
  have hd : ([d] : List Int).getD 0 0 = d := rfl
  rw [hd, cutD_idx]
  have hw : IntKind.wrap .i64 (a + ([d] : List Int).length) = a + 1 := wrapK _ (by simp; omega) (by simp; omega)
  rw [hw, ea]
  refine ⟨fun h => ⟨⟨h, by omega⟩, ⟨by omega, by omega⟩, ?_⟩, fun h => ?_⟩
  · rw [if_pos h, show (idxB l d + 1).toNat = (idxB l d).toNat + 1 by omega]
    exact ⟨rfl, rfl, rfl⟩
  · rw [if_neg h]
    exact ⟨rfl, rfl, rfl⟩
theorem h59 : c_stringslite_Cut.ok Tryd.prog GL 59 := con_ok (H := {}) (mkEnv_ok (gl := GL) (l := [(83, conSem c_stringslite_Index)]) (q := []) (d := []) _ tyOk (by kernel_rfl) ⟨h83.call, trivial⟩ trivial trivial) (by kernel_rfl) (by kernel_rfl) (Eq.mp e59 k59)

def t36 : Prop :=
  ∀ (x : List Int × List Int × Unit), Kd.wf Kd.str x.fst ∧ Kd.wf Kd.str x.snd.fst ∧ True → List.length x.fst < (4294967281 : Nat) ∧ List.length x.snd.fst = (1 : Nat) → (List.length x.fst <
  (4294967281 : Nat) ∧ List.length x.snd.fst = (1 : Nat)) ∧ (∀ (y : List Int × List Int × Bool × Unit), Kd.wf Kd.str y.fst ∧ Kd.wf Kd.str y.snd.fst ∧ Kd.wf Kd.bool y.snd.snd.fst ∧ True →
  y.fst = (cutD (List.getD x.snd.fst (0 : Nat) (0 : Int)) x.fst).fst ∧ y.snd.fst = (cutD (List.getD x.snd.fst (0 : Nat) (0 : Int)) x.fst).snd.fst ∧ y.snd.snd.fst = (cutD (List.getD x.snd.fst
  (0 : Nat) (0 : Int)) x.fst).snd.snd → y.fst = (cutD (List.getD x.snd.fst (0 : Nat) (0 : Int)) x.fst).fst ∧ y.snd.fst = (cutD (List.getD x.snd.fst (0 : Nat) (0 : Int)) x.fst).snd.fst ∧
  y.snd.snd.fst = (cutD (List.getD x.snd.fst (0 : Nat) (0 : Int)) x.fst).snd.snd) ∧ True
theorem e36 : t36 = Con.vc c_strings_Cut GL (mkEnv ty [(59, conSem c_stringslite_Cut)] [] [] [0, 1, 4, 5, 6]) {} Tryd.f36.ntmps Tryd.f36.results.toList (bodyOf Tryd.f36) := by kernel_rfl
theorem k36 : t36 := by
  unfold t36
  rintro ⟨l, c, _⟩ hx hp
  try dsimp +instances only [dft_int, dft_sl, dft_str]
  simp only [true_and, and_true, eq_self_iff_true, implies_true, reduceCtorEq, false_implies, true_implies, decide_eq_true_eq, decide_eq_false_iff_not, beq_self_eq_true, Bool.not_eq_true', ne_eq, Decidable.not_not, List.nil_append, List.length_singleton, List.length_cons, List.length_nil, Nat.zero_add, Nat.add_zero, Nat.mul_one, and_self, beq_iff_eq, Bool.not_true, Bool.not_false, Bool.not_eq_false', Bool.cond_false_right, Bool.and_eq_true, imp_self, Bool.not_eq_true, Bool.cond_true_left, Bool.or_eq_true]
  exact hp
theorem h36 : c_strings_Cut.ok Tryd.prog GL 36 := con_ok (H := {}) (mkEnv_ok (gl := GL) (l := [(59, conSem c_stringslite_Cut)]) (q := []) (d := []) _ tyOk (by kernel_rfl) ⟨h59.call, trivial⟩ trivial trivial) (by kernel_rfl) (by kernel_rfl) (Eq.mp e36 k36)

end Go.Proofs.YtcaekpbmmbfeiaaDoor
end
section
/- Contracts. -/
namespace Go.Proofs.YtcaekpbmmbfeiaaDoor
open Go Go.Vc Go.Pl Go.Proofs
def c_utf8_DecodeRuneInString : Con := { args := [.dat .str], res := [.dat I32, .dat I64], pre := fun _ => True, post := fun x y => y.1 = (decD x.1).1 ∧ y.2.1 = (decD x.1).2 }
def c_utf8_decodeRuneInStringSlow : Con := { args := [.dat .str], res := [.dat I32, .dat I64], pre := fun _ => True, post := fun x y => y.1 = (decD x.1).1 ∧ y.2.1 = (decD x.1).2 }
def c_text_Valid : Con := { args := [.dat .str], res := [.dat I64], pre := fun _ => True, post := fun x y => y.1 = vld x.1 0 }
def c_r05_Valid : Con := { args := [.dat .str], res := [.dat I64], pre := fun x => x.1.length ≤ 1000000000, post := fun x y => y.1 = vld x.1 0 }
def c_r05_more : Con := { args := [.dat .str, .dat I64, .dat I64], res := [.dat .bool], pre := fun x => x.1.length ≤ 1000000000 ∧ 0 ≤ x.2.1 ∧ x.2.1 ≤ 1000000000 ∧ 0 ≤ x.2.2.1 ∧ x.2.2.1 ≤ 3, post := fun x y => y.1 = moreD x.1 x.2.1.toNat x.2.2.1.toNat }
def c_r05_character : Con := { args := [.dat .str, .dat I64], res := [.dat I64], pre := fun x => x.1.length ≤ 1000000000 ∧ 0 ≤ x.2.1 ∧ x.2.1 < x.1.length, post := fun x y => y.1 = chw x.1 x.2.1.toNat }
def c_text_small : Con := { args := [.dat U8], res := [.dat U8], pre := fun _ => True, post := fun x y => y.1 = smallD x.1 }
def c_text_prints : Con := { args := [.dat U8], res := [.dat .bool], pre := fun _ => True, post := fun x y => y.1 = printsD x.1 }
def c_r05_Prints : Con := { args := [.dat U8], res := [.dat .bool], pre := fun _ => True, post := fun x y => y.1 = printsD x.1 }
def c_r05_Words : Con := { args := [.dat .str], res := [.own 9 .str], pre := fun x => x.1.length ≤ 100000000, post := fun x y => y.1 = wordsD x.1 }
def c_text_Fold : Con := { args := [.dat .str], res := [.dat .str], pre := fun x => x.1.length ≤ 100000000, post := fun x y => y.1 = foldD x.1 }
def c_r05_Fold : Con := { args := [.dat .str], res := [.dat .str], pre := fun x => x.1.length ≤ 100000000, post := fun x y => y.1 = foldD x.1 }
def c_text_Same : Con := { args := [.dat .str, .dat .str], res := [.dat .bool], pre := fun x => x.1.length ≤ 100000000 ∧ x.2.1.length ≤ 100000000, post := fun x y => y.1 = decide (foldD x.1 = foldD x.2.1) }
def c_text_May : Con := { args := [.dat I64, .dat .str], res := [.dat .bool], pre := fun _ => True, post := fun x y => y.1 = mayD x.1 x.2.1 }
def c_r05_May : Con := { args := [.dat I64, .dat .str], res := [.dat .bool], pre := fun x => x.2.1.length ≤ 1000000000, post := fun x y => y.1 = mayD x.1 x.2.1 }
def c_text_Kind : Con := { args := [.dat .str], res := [.dat I64, .dat I64], pre := fun _ => True, post := fun x y => y.1 = (kindD x.1).1 ∧ y.2.1 = (kindD x.1).2 }
def c_r05_Kind : Con := { args := [.dat .str], res := [.dat I64, .dat I64], pre := fun x => x.1.length ≤ 1000000000, post := fun x y => y.1 = (kindD x.1).1 ∧ y.2.1 = (kindD x.1).2 }

end Go.Proofs.YtcaekpbmmbfeiaaDoor
end
section
/- Walks. -/
namespace Go.Proofs.YtcaekpbmmbfeiaaDoor
open Go Go.Vc Go.Pl Go.Proofs
set_option linter.unusedVariables false
set_option linter.unusedSimpArgs false
def t120 : Prop :=
  ∀ (x : List Int × Unit), Kd.wf Kd.str x.fst ∧ True → True → (decide ((↑(List.length x.fst) : Int) < (1 : Int)) = true → (65533 : Int) = (decD x.fst).fst ∧ (0 : Int) = (decD x.fst).snd) ∧
  (decide ((↑(List.length x.fst) : Int) < (1 : Int)) = false → ((0 : Int) ≤ (0 : Int) ∧ (0 : Int) < (↑(List.length x.fst) : Int)) ∧ ((0 : Int) ≤ List.getD x.fst (0 : Nat) (0 : Int) ∧
  List.getD x.fst (0 : Nat) (0 : Int) < (↑(256 : Nat) : Int) ∧ List.getD x.fst (0 : Nat) (0 : Int) < (↑(256 : Nat) : Int)) ∧ (decide ((240 : Int) ≤ List.getD Lib.firstTab (Int.toNat
  (List.getD x.fst (0 : Nat) (0 : Int))) (Kd.dft (Kd.int IntKind.u8))) = true → (0 : Int) ≤ (31 : Int) ∧ (0 : Int) ≤ (31 : Int) ∧ ((0 : Int) ≤ (0 : Int) ∧ (0 : Int) < (↑(List.length x.fst) :
  Int)) ∧ IntKind.wrap IntKind.i32 (↑(BitVec.toNat (BitVec.ofInt (32 : Nat) (IntKind.wrap IntKind.i32 (↑(BitVec.toNat (BitVec.ofInt (32 : Nat) (IntKind.wrap IntKind.i32 (List.getD x.fst (0 :
  Nat) (0 : Int))) &&& ~~~BitVec.ofInt (32 : Nat) (Int.fdiv (IntKind.wrap IntKind.i32 (IntKind.wrap IntKind.i32 (List.getD Lib.firstTab (Int.toNat (List.getD x.fst (0 : Nat) (0 : Int)))
  (Kd.dft (Kd.int IntKind.u8))) * (2 : Int) ^ (31 : Nat))) ((2 : Int) ^ (31 : Nat))))) : Int)) ||| BitVec.ofInt (32 : Nat) (IntKind.wrap IntKind.i32 (↑(BitVec.toNat (BitVec.ofInt (32 : Nat)
  (65533 : Int) &&& BitVec.ofInt (32 : Nat) (Int.fdiv (IntKind.wrap IntKind.i32 (IntKind.wrap IntKind.i32 (List.getD Lib.firstTab (Int.toNat (List.getD x.fst (0 : Nat) (0 : Int))) (Kd.dft
  (Kd.int IntKind.u8))) * (2 : Int) ^ (31 : Nat))) ((2 : Int) ^ (31 : Nat))))) : Int)))) : Int) = (decD x.fst).fst ∧ (1 : Int) = (decD x.fst).snd) ∧ (decide ((240 : Int) ≤ List.getD
  Lib.firstTab (Int.toNat (List.getD x.fst (0 : Nat) (0 : Int))) (Kd.dft (Kd.int IntKind.u8))) = false → (0 : Int) ≤ (4 : Int) ∧ ((0 : Int) ≤ Int.fdiv (List.getD Lib.firstTab (Int.toNat
  (List.getD x.fst (0 : Nat) (0 : Int))) (Kd.dft (Kd.int IntKind.u8))) ((2 : Int) ^ (4 : Nat)) ∧ Int.fdiv (List.getD Lib.firstTab (Int.toNat (List.getD x.fst (0 : Nat) (0 : Int))) (Kd.dft
  (Kd.int IntKind.u8))) ((2 : Int) ^ (4 : Nat)) < (↑(16 : Nat) : Int) ∧ Int.fdiv (List.getD Lib.firstTab (Int.toNat (List.getD x.fst (0 : Nat) (0 : Int))) (Kd.dft (Kd.int IntKind.u8))) ((2 :
  Int) ^ (4 : Nat)) < (↑(16 : Nat) : Int)) ∧ (2 : Nat) ≤ (65536 : Nat) ∧ (decide ((↑(List.length x.fst) : Int) < IntKind.wrap IntKind.i64 (IntKind.wrap IntKind.u8 (↑(BitVec.toNat
  (BitVec.ofInt (8 : Nat) (List.getD Lib.firstTab (Int.toNat (List.getD x.fst (0 : Nat) (0 : Int))) (Kd.dft (Kd.int IntKind.u8))) &&& BitVec.ofInt (8 : Nat) (7 : Int))) : Int))) = true →
  (65533 : Int) = (decD x.fst).fst ∧ (1 : Int) = (decD x.fst).snd) ∧ (decide ((↑(List.length x.fst) : Int) < IntKind.wrap IntKind.i64 (IntKind.wrap IntKind.u8 (↑(BitVec.toNat (BitVec.ofInt (8
  : Nat) (List.getD Lib.firstTab (Int.toNat (List.getD x.fst (0 : Nat) (0 : Int))) (Kd.dft (Kd.int IntKind.u8))) &&& BitVec.ofInt (8 : Nat) (7 : Int))) : Int))) = false → ((0 : Int) ≤ (1 :
  Int) ∧ (1 : Int) < (↑(List.length x.fst) : Int)) ∧ (decide (List.getD x.fst (1 : Nat) (0 : Int) < (List.getD accTab (Int.toNat (Int.fdiv (List.getD Lib.firstTab (Int.toNat (List.getD x.fst
  (0 : Nat) (0 : Int))) (Kd.dft (Kd.int IntKind.u8))) ((2 : Int) ^ (4 : Nat)))) (Kd.dft (Kd.pair (Kd.int IntKind.u8) (Kd.int IntKind.u8)))).fst) = false → True) ∧ (decide (List.getD x.fst (1
  : Nat) (0 : Int) < (List.getD accTab (Int.toNat (Int.fdiv (List.getD Lib.firstTab (Int.toNat (List.getD x.fst (0 : Nat) (0 : Int))) (Kd.dft (Kd.int IntKind.u8))) ((2 : Int) ^ (4 : Nat))))
  (Kd.dft (Kd.pair (Kd.int IntKind.u8) (Kd.int IntKind.u8)))).fst) = false → (decide (List.getD x.fst (1 : Nat) (0 : Int) < (List.getD accTab (Int.toNat (Int.fdiv (List.getD Lib.firstTab
  (Int.toNat (List.getD x.fst (0 : Nat) (0 : Int))) (Kd.dft (Kd.int IntKind.u8))) ((2 : Int) ^ (4 : Nat)))) (Kd.dft (Kd.pair (Kd.int IntKind.u8) (Kd.int IntKind.u8)))).fst) == false) = true ∧
  True) ∧ (decide (List.getD x.fst (1 : Nat) (0 : Int) < (List.getD accTab (Int.toNat (Int.fdiv (List.getD Lib.firstTab (Int.toNat (List.getD x.fst (0 : Nat) (0 : Int))) (Kd.dft (Kd.int
  IntKind.u8))) ((2 : Int) ^ (4 : Nat)))) (Kd.dft (Kd.pair (Kd.int IntKind.u8) (Kd.int IntKind.u8)))).fst) = false → True) ∧ (decide (List.getD x.fst (1 : Nat) (0 : Int) < (List.getD accTab
  (Int.toNat (Int.fdiv (List.getD Lib.firstTab (Int.toNat (List.getD x.fst (0 : Nat) (0 : Int))) (Kd.dft (Kd.int IntKind.u8))) ((2 : Int) ^ (4 : Nat)))) (Kd.dft (Kd.pair (Kd.int IntKind.u8)
  (Kd.int IntKind.u8)))).fst) = false → (decide (List.getD x.fst (1 : Nat) (0 : Int) < (List.getD accTab (Int.toNat (Int.fdiv (List.getD Lib.firstTab (Int.toNat (List.getD x.fst (0 : Nat) (0
  : Int))) (Kd.dft (Kd.int IntKind.u8))) ((2 : Int) ^ (4 : Nat)))) (Kd.dft (Kd.pair (Kd.int IntKind.u8) (Kd.int IntKind.u8)))).fst) == false) = true ∧ (decide (List.getD x.fst (1 : Nat) (0 :
  Int) < (List.getD accTab (Int.toNat (Int.fdiv (List.getD Lib.firstTab (Int.toNat (List.getD x.fst (0 : Nat) (0 : Int))) (Kd.dft (Kd.int IntKind.u8))) ((2 : Int) ^ (4 : Nat)))) (Kd.dft
  (Kd.pair (Kd.int IntKind.u8) (Kd.int IntKind.u8)))).fst) == false) = true ∧ True) ∧ (decide (List.getD x.fst (1 : Nat) (0 : Int) < (List.getD accTab (Int.toNat (Int.fdiv (List.getD
  Lib.firstTab (Int.toNat (List.getD x.fst (0 : Nat) (0 : Int))) (Kd.dft (Kd.int IntKind.u8))) ((2 : Int) ^ (4 : Nat)))) (Kd.dft (Kd.pair (Kd.int IntKind.u8) (Kd.int IntKind.u8)))).fst) =
  false → (decide (List.getD x.fst (1 : Nat) (0 : Int) < (List.getD accTab (Int.toNat (Int.fdiv (List.getD Lib.firstTab (Int.toNat (List.getD x.fst (0 : Nat) (0 : Int))) (Kd.dft (Kd.int
  IntKind.u8))) ((2 : Int) ^ (4 : Nat)))) (Kd.dft (Kd.pair (Kd.int IntKind.u8) (Kd.int IntKind.u8)))).fst) == false) = true) ∧ ((bif decide (List.getD x.fst (1 : Nat) (0 : Int) < (List.getD
  accTab (Int.toNat (Int.fdiv (List.getD Lib.firstTab (Int.toNat (List.getD x.fst (0 : Nat) (0 : Int))) (Kd.dft (Kd.int IntKind.u8))) ((2 : Int) ^ (4 : Nat)))) (Kd.dft (Kd.pair (Kd.int
  IntKind.u8) (Kd.int IntKind.u8)))).fst) then true else decide ((List.getD accTab (Int.toNat (Int.fdiv (List.getD Lib.firstTab (Int.toNat (List.getD x.fst (0 : Nat) (0 : Int))) (Kd.dft
  (Kd.int IntKind.u8))) ((2 : Int) ^ (4 : Nat)))) (Kd.dft (Kd.pair (Kd.int IntKind.u8) (Kd.int IntKind.u8)))).snd < List.getD x.fst (1 : Nat) (0 : Int))) = true → (65533 : Int) = (decD
  x.fst).fst ∧ (1 : Int) = (decD x.fst).snd) ∧ ((bif decide (List.getD x.fst (1 : Nat) (0 : Int) < (List.getD accTab (Int.toNat (Int.fdiv (List.getD Lib.firstTab (Int.toNat (List.getD x.fst
  (0 : Nat) (0 : Int))) (Kd.dft (Kd.int IntKind.u8))) ((2 : Int) ^ (4 : Nat)))) (Kd.dft (Kd.pair (Kd.int IntKind.u8) (Kd.int IntKind.u8)))).fst) then true else decide ((List.getD accTab
  (Int.toNat (Int.fdiv (List.getD Lib.firstTab (Int.toNat (List.getD x.fst (0 : Nat) (0 : Int))) (Kd.dft (Kd.int IntKind.u8))) ((2 : Int) ^ (4 : Nat)))) (Kd.dft (Kd.pair (Kd.int IntKind.u8)
  (Kd.int IntKind.u8)))).snd < List.getD x.fst (1 : Nat) (0 : Int))) = false → (decide (IntKind.wrap IntKind.i64 (IntKind.wrap IntKind.u8 (↑(BitVec.toNat (BitVec.ofInt (8 : Nat) (List.getD
  Lib.firstTab (Int.toNat (List.getD x.fst (0 : Nat) (0 : Int))) (Kd.dft (Kd.int IntKind.u8))) &&& BitVec.ofInt (8 : Nat) (7 : Int))) : Int)) ≤ (2 : Int)) = true → (0 : Int) ≤ (6 : Int) ∧
  IntKind.wrap IntKind.i32 (↑(BitVec.toNat (BitVec.ofInt (32 : Nat) (IntKind.wrap IntKind.i32 (IntKind.wrap IntKind.i32 (IntKind.wrap IntKind.u8 (↑(BitVec.toNat (BitVec.ofInt (8 : Nat)
  (List.getD x.fst (0 : Nat) (0 : Int)) &&& BitVec.ofInt (8 : Nat) (31 : Int))) : Int)) * (2 : Int) ^ (6 : Nat))) ||| BitVec.ofInt (32 : Nat) (IntKind.wrap IntKind.i32 (IntKind.wrap
  IntKind.u8 (↑(BitVec.toNat (BitVec.ofInt (8 : Nat) (List.getD x.fst (1 : Nat) (0 : Int)) &&& BitVec.ofInt (8 : Nat) (63 : Int))) : Int))))) : Int) = (decD x.fst).fst ∧ (2 : Int) = (decD
  x.fst).snd) ∧ (decide (IntKind.wrap IntKind.i64 (IntKind.wrap IntKind.u8 (↑(BitVec.toNat (BitVec.ofInt (8 : Nat) (List.getD Lib.firstTab (Int.toNat (List.getD x.fst (0 : Nat) (0 : Int)))
  (Kd.dft (Kd.int IntKind.u8))) &&& BitVec.ofInt (8 : Nat) (7 : Int))) : Int)) ≤ (2 : Int)) = false → ((0 : Int) ≤ (2 : Int) ∧ (2 : Int) < (↑(List.length x.fst) : Int)) ∧ (decide (List.getD
  x.fst (2 : Nat) (0 : Int) < (128 : Int)) = false → True) ∧ (decide (List.getD x.fst (2 : Nat) (0 : Int) < (128 : Int)) = false → (decide (List.getD x.fst (2 : Nat) (0 : Int) < (128 : Int))
  == false) = true ∧ True) ∧ (decide (List.getD x.fst (2 : Nat) (0 : Int) < (128 : Int)) = false → (decide (List.getD x.fst (2 : Nat) (0 : Int) < (128 : Int)) == false) = true) ∧ ((bif decide
  (List.getD x.fst (2 : Nat) (0 : Int) < (128 : Int)) then true else decide ((191 : Int) < List.getD x.fst (2 : Nat) (0 : Int))) = true → (65533 : Int) = (decD x.fst).fst ∧ (1 : Int) = (decD
  x.fst).snd) ∧ ((bif decide (List.getD x.fst (2 : Nat) (0 : Int) < (128 : Int)) then true else decide ((191 : Int) < List.getD x.fst (2 : Nat) (0 : Int))) = false → (decide (IntKind.wrap
  IntKind.i64 (IntKind.wrap IntKind.u8 (↑(BitVec.toNat (BitVec.ofInt (8 : Nat) (List.getD Lib.firstTab (Int.toNat (List.getD x.fst (0 : Nat) (0 : Int))) (Kd.dft (Kd.int IntKind.u8))) &&&
  BitVec.ofInt (8 : Nat) (7 : Int))) : Int)) ≤ (3 : Int)) = true → (0 : Int) ≤ (12 : Int) ∧ (0 : Int) ≤ (6 : Int) ∧ IntKind.wrap IntKind.i32 (↑(BitVec.toNat (BitVec.ofInt (32 : Nat)
  (IntKind.wrap IntKind.i32 (↑(BitVec.toNat (BitVec.ofInt (32 : Nat) (IntKind.wrap IntKind.i32 (IntKind.wrap IntKind.i32 (IntKind.wrap IntKind.u8 (↑(BitVec.toNat (BitVec.ofInt (8 : Nat)
  (List.getD x.fst (0 : Nat) (0 : Int)) &&& BitVec.ofInt (8 : Nat) (15 : Int))) : Int)) * (2 : Int) ^ (12 : Nat))) ||| BitVec.ofInt (32 : Nat) (IntKind.wrap IntKind.i32 (IntKind.wrap
  IntKind.i32 (IntKind.wrap IntKind.u8 (↑(BitVec.toNat (BitVec.ofInt (8 : Nat) (List.getD x.fst (1 : Nat) (0 : Int)) &&& BitVec.ofInt (8 : Nat) (63 : Int))) : Int)) * (2 : Int) ^ (6 :
  Nat))))) : Int)) ||| BitVec.ofInt (32 : Nat) (IntKind.wrap IntKind.i32 (IntKind.wrap IntKind.u8 (↑(BitVec.toNat (BitVec.ofInt (8 : Nat) (List.getD x.fst (2 : Nat) (0 : Int)) &&&
  BitVec.ofInt (8 : Nat) (63 : Int))) : Int))))) : Int) = (decD x.fst).fst ∧ (3 : Int) = (decD x.fst).snd) ∧ (decide (IntKind.wrap IntKind.i64 (IntKind.wrap IntKind.u8 (↑(BitVec.toNat
  (BitVec.ofInt (8 : Nat) (List.getD Lib.firstTab (Int.toNat (List.getD x.fst (0 : Nat) (0 : Int))) (Kd.dft (Kd.int IntKind.u8))) &&& BitVec.ofInt (8 : Nat) (7 : Int))) : Int)) ≤ (3 : Int)) =
  false → ((0 : Int) ≤ (3 : Int) ∧ (3 : Int) < (↑(List.length x.fst) : Int)) ∧ (decide (List.getD x.fst (3 : Nat) (0 : Int) < (128 : Int)) = false → True) ∧ (decide (List.getD x.fst (3 : Nat)
  (0 : Int) < (128 : Int)) = false → (decide (List.getD x.fst (3 : Nat) (0 : Int) < (128 : Int)) == false) = true ∧ True) ∧ (decide (List.getD x.fst (3 : Nat) (0 : Int) < (128 : Int)) = false
  → (decide (List.getD x.fst (3 : Nat) (0 : Int) < (128 : Int)) == false) = true) ∧ ((bif decide (List.getD x.fst (3 : Nat) (0 : Int) < (128 : Int)) then true else decide ((191 : Int) <
  List.getD x.fst (3 : Nat) (0 : Int))) = true → (65533 : Int) = (decD x.fst).fst ∧ (1 : Int) = (decD x.fst).snd) ∧ ((bif decide (List.getD x.fst (3 : Nat) (0 : Int) < (128 : Int)) then true
  else decide ((191 : Int) < List.getD x.fst (3 : Nat) (0 : Int))) = false → (0 : Int) ≤ (18 : Int) ∧ (0 : Int) ≤ (12 : Int) ∧ (0 : Int) ≤ (6 : Int) ∧ IntKind.wrap IntKind.i32 (↑(BitVec.toNat
  (BitVec.ofInt (32 : Nat) (IntKind.wrap IntKind.i32 (↑(BitVec.toNat (BitVec.ofInt (32 : Nat) (IntKind.wrap IntKind.i32 (↑(BitVec.toNat (BitVec.ofInt (32 : Nat) (IntKind.wrap IntKind.i32
  (IntKind.wrap IntKind.i32 (IntKind.wrap IntKind.u8 (↑(BitVec.toNat (BitVec.ofInt (8 : Nat) (List.getD x.fst (0 : Nat) (0 : Int)) &&& BitVec.ofInt (8 : Nat) (7 : Int))) : Int)) * (2 : Int) ^
  (18 : Nat))) ||| BitVec.ofInt (32 : Nat) (IntKind.wrap IntKind.i32 (IntKind.wrap IntKind.i32 (IntKind.wrap IntKind.u8 (↑(BitVec.toNat (BitVec.ofInt (8 : Nat) (List.getD x.fst (1 : Nat) (0 :
  Int)) &&& BitVec.ofInt (8 : Nat) (63 : Int))) : Int)) * (2 : Int) ^ (12 : Nat))))) : Int)) ||| BitVec.ofInt (32 : Nat) (IntKind.wrap IntKind.i32 (IntKind.wrap IntKind.i32 (IntKind.wrap
  IntKind.u8 (↑(BitVec.toNat (BitVec.ofInt (8 : Nat) (List.getD x.fst (2 : Nat) (0 : Int)) &&& BitVec.ofInt (8 : Nat) (63 : Int))) : Int)) * (2 : Int) ^ (6 : Nat))))) : Int)) ||| BitVec.ofInt
  (32 : Nat) (IntKind.wrap IntKind.i32 (IntKind.wrap IntKind.u8 (↑(BitVec.toNat (BitVec.ofInt (8 : Nat) (List.getD x.fst (3 : Nat) (0 : Int)) &&& BitVec.ofInt (8 : Nat) (63 : Int))) :
  Int))))) : Int) = (decD x.fst).fst ∧ (4 : Int) = (decD x.fst).snd))))))))
theorem e120 : t120 = Con.vc c_utf8_decodeRuneInStringSlow GL (mkEnv ty [] [] [] [0, 2, 3, 4, 5, 6, 7, 8, 9, 10, 11, 12, 16, 23, 45, 57, 59, 75, 77, 98]) {} Tryd.f120.ntmps Tryd.f120.results.toList (bodyOf Tryd.f120) := by kernel_rfl
theorem k120 : t120 := by
  unfold t120
  rintro ⟨l, _⟩ hx hp
  have hw : Kd.wf Kd.str l := hx.1
  try dsimp +instances only [dft_int, dft_sl, dft_str]
  simp only [true_and, and_true, eq_self_iff_true, implies_true, reduceCtorEq, false_implies, true_implies, decide_eq_true_eq, decide_eq_false_iff_not, beq_self_eq_true, Bool.not_eq_true', ne_eq, Decidable.not_not, List.nil_append, List.length_singleton, List.length_cons, List.length_nil, Nat.zero_add, Nat.add_zero, Nat.mul_one, and_self, beq_iff_eq, Bool.not_true, Bool.not_false, Bool.not_eq_false', Bool.cond_false_right, Bool.and_eq_true, imp_self, Bool.not_eq_true, Bool.cond_true_left, Bool.or_eq_true]
  simp only [Bool.or_eq_false_iff, decide_eq_false_iff_not]
  refine ⟨fun h => ?_, fun hne => ?_⟩
  · have : l = [] := List.eq_nil_of_length_eq_zero (by omega)
    subst this
    exact ⟨rfl, rfl⟩
  have hl : 1 ≤ l.length := by omega
  have hD : decD l = (((udec l 0).1 : Int), ((udec l 0).2 : Int)) := by rw [decD, if_neg (fun e => by rw [e] at hl; simp at hl)]
  have hu : udec l 0 = Lib.decodeN l.length (l.getD 0 0).toNat (l.getD 1 0).toNat (l.getD 2 0).toNat (l.getD 3 0).toNat := rfl
  rw [hD, hu]
  obtain ⟨b0, e0, g0⟩ := nat_of l hw 0
  obtain ⟨b1, e1, g1⟩ := nat_of l hw 1
  obtain ⟨b2, e2, g2⟩ := nat_of l hw 2
  obtain ⟨b3, e3, g3⟩ := nat_of l hw 3
  rw [e0, e1, e2, e3, Int.toNat_natCast, Int.toNat_natCast, Int.toNat_natCast, Int.toNat_natCast, first_get b0 g0]
  obtain ⟨f1, f2, f3⟩ := first_sz b0
  generalize hn : l.length = n at *
  refine ⟨⟨by decide, by omega⟩, ⟨by omega, by omega⟩, fun hF => ?_, fun hF => ?_⟩
  · have hF : 240 ≤ Lib.firstT b0 := by omega
    refine ⟨by decide, by decide, ⟨by decide, by omega⟩, ?_⟩
    rw [mask_eq b0 g0 hF]
    rcases f2 hF with h | h
    · rw [if_pos h, Lib.ascii_eq _ _ _ _ _ h]; exact ⟨rfl, rfl⟩
    · rw [if_neg (by omega), Lib.bad_eq _ _ _ _ _ g0 h]; exact ⟨rfl, rfl⟩
  · have hF : Lib.firstT b0 < 240 := by omega
    obtain ⟨s2, s4⟩ := f3 hF
    have hs := Lib.slow_eq n b0 b1 b2 b3 (by omega) g1 g2 g3 hF
    have hm : IntKind.i64.wrap (IntKind.u8.wrap ↑(BitVec.ofInt 8 (Lib.firstT b0 : Int) &&& BitVec.ofInt 8 7).toNat) = ((Lib.firstT b0 % 8 : Nat) : Int) := by
      rw [and_7 _ (by omega), wrapK _ (by omega) (by omega)]
    have hfd : (Lib.firstT b0 : Int).fdiv (2 ^ 4) = ((Lib.firstT b0 / 16 : Nat) : Int) := by
      rw [Int.fdiv_eq_ediv_of_nonneg _ (by decide)]
      omega
    have hac : Lib.firstT b0 / 16 < 16 := by omega
    rw [hm, hfd, Int.toNat_natCast, acc_get _ hac, ← hs]
    generalize Lib.firstT b0 % 8 = sz at *
    generalize Lib.firstT b0 / 16 = ac at *
    simp only
    refine ⟨by decide, ⟨by omega, by omega⟩, by decide, fun h => ?_, fun h => ⟨⟨by decide, by omega⟩, fun hb => ?_, fun hb => ⟨fun hz => ?_, fun hz => ⟨⟨by decide, by omega⟩, fun hc => ?_, fun hc => ⟨fun hz3 => ?_, fun hz3 => ⟨⟨by decide, by omega⟩, fun hd => ?_, fun hd => ?_⟩⟩⟩⟩⟩⟩
    · rw [Lib.slowN, if_pos (by omega)]; exact ⟨rfl, rfl⟩
    · rw [Lib.slowN, if_neg (by omega), if_pos (by omega)]; exact ⟨rfl, rfl⟩
    · rw [Lib.slowN, if_neg (by omega), if_neg (by omega), if_pos (by omega)]
      refine ⟨by decide, ?_, rfl⟩
      rw [and_31 b0 g0, and_63 b1 g1, or2 _ _ (by omega) (by omega)]
    · rw [Lib.slowN, if_neg (by omega), if_neg (by omega), if_neg (by omega), if_pos (by omega)]; exact ⟨rfl, rfl⟩
    · rw [Lib.slowN, if_neg (by omega), if_neg (by omega), if_neg (by omega), if_neg (by omega), if_pos (by omega)]
      refine ⟨by decide, by decide, ?_, rfl⟩
      rw [and_15 b0 g0, and_63 b1 g1, and_63 b2 g2, or3 _ _ _ (by omega) (by omega) (by omega)]
    · rw [Lib.slowN, if_neg (by omega), if_neg (by omega), if_neg (by omega), if_neg (by omega), if_neg (by omega), if_pos (by omega)]; exact ⟨rfl, rfl⟩
    · rw [Lib.slowN, if_neg (by omega), if_neg (by omega), if_neg (by omega), if_neg (by omega), if_neg (by omega), if_neg (by omega)]
      refine ⟨by decide, by decide, by decide, ?_, rfl⟩
      rw [and_7 b0 g0, and_63 b1 g1, and_63 b2 g2, and_63 b3 g3, or4 _ _ _ _ (by omega) (by omega) (by omega) (by omega)]
theorem h120 : c_utf8_decodeRuneInStringSlow.ok Tryd.prog GL 120 := con_ok (H := {}) (mkEnv_ok (gl := GL) (l := []) (q := []) (d := []) _ tyOk (by kernel_rfl) trivial trivial trivial) (by kernel_rfl) (by kernel_rfl) (Eq.mp e120 k120)

def t110 : Prop :=
  ∀ (x : List Int × Unit), Kd.wf Kd.str x.fst ∧ True → True → (decide (x.fst ≠ bs { data := #[] }) = true → True) ∧ (decide (x.fst ≠ bs { data := #[] }) = true → (decide (x.fst ≠ bs { data :=
  #[] }) == true) = true ∧ ((0 : Int) ≤ (0 : Int) ∧ (0 : Int) < (↑(List.length x.fst) : Int)) ∧ True) ∧ (decide (x.fst ≠ bs { data := #[] }) = true → (decide (x.fst ≠ bs { data := #[] }) ==
  true) = true ∧ True) ∧ (decide (x.fst ≠ bs { data := #[] }) = true → (decide (x.fst ≠ bs { data := #[] }) == true) = true) ∧ ((bif decide (x.fst ≠ bs { data := #[] }) then decide (List.getD
  x.fst (0 : Nat) (0 : Int) < (128 : Int)) else false) = true → ((0 : Int) ≤ (0 : Int) ∧ (0 : Int) < (↑(List.length x.fst) : Int)) ∧ IntKind.wrap IntKind.i32 (List.getD x.fst (0 : Nat) (0 :
  Int)) = (decD x.fst).fst ∧ (1 : Int) = (decD x.fst).snd) ∧ ((bif decide (x.fst ≠ bs { data := #[] }) then decide (List.getD x.fst (0 : Nat) (0 : Int) < (128 : Int)) else false) = false →
  True ∧ (∀ (y : Int × Int × Unit), Kd.wf (Kd.int IntKind.i32) y.fst ∧ Kd.wf (Kd.int IntKind.i64) y.snd.fst ∧ True → y.fst = (decD x.fst).fst ∧ y.snd.fst = (decD x.fst).snd → y.fst = (decD
  x.fst).fst ∧ y.snd.fst = (decD x.fst).snd) ∧ True)
theorem e110 : t110 = Con.vc c_utf8_DecodeRuneInString GL (mkEnv ty [(120, conSem c_utf8_decodeRuneInStringSlow)] [] [] [0, 2, 3, 10]) {} Tryd.f110.ntmps Tryd.f110.results.toList (bodyOf Tryd.f110) := by kernel_rfl
theorem k110 : t110 := by
  unfold t110
  rintro ⟨l, _⟩ hx hp
  have hw : Kd.wf Kd.str l := hx.1
  try dsimp +instances only [dft_int, dft_sl, dft_str]
  simp only [true_and, and_true, eq_self_iff_true, implies_true, reduceCtorEq, false_implies, true_implies, decide_eq_true_eq, decide_eq_false_iff_not, beq_self_eq_true, Bool.not_eq_true', ne_eq, Decidable.not_not, List.nil_append, List.length_singleton, List.length_cons, List.length_nil, Nat.zero_add, Nat.add_zero, Nat.mul_one, and_self, beq_iff_eq, Bool.not_true, Bool.not_false, Bool.not_eq_false', Bool.cond_false_right, Bool.and_eq_true, imp_self, Bool.not_eq_true, Bool.cond_true_left, Bool.or_eq_true]
  rw [bs_nil]
  refine ⟨fun h => ⟨h, by decide, by have := List.length_pos_iff.2 h; omega⟩, fun h => ⟨⟨by decide, by have := List.length_pos_iff.2 h.1; omega⟩, ?_⟩⟩
  have hb := str_get hw 0
  have hu := udec_ascii l 0 (by omega)
  rw [decD, if_neg h.1, hu]
  refine ⟨?_, rfl⟩
  show _ = (((l.getD 0 0).toNat : Nat) : Int)
  have h2 := h.2
  generalize l.getD 0 0 = b at hb h2 ⊢
  simp [IntKind.wrap, IntKind.signed, IntKind.bits]
  omega
theorem h110 : c_utf8_DecodeRuneInString.ok Tryd.prog GL 110 := con_ok (H := {}) (mkEnv_ok (gl := GL) (l := [(120, conSem c_utf8_decodeRuneInStringSlow)]) (q := []) (d := []) _ tyOk (by kernel_rfl) ⟨h120.call, trivial⟩ trivial trivial) (by kernel_rfl) (by kernel_rfl) (Eq.mp e110 k110)

def t84 : Prop :=
  ∀ (x : List Int × Unit), Kd.wf Kd.str x.fst ∧ True → True → ∃ (I : Int × Unit → Nat × Unit → Prop), ∃ (μ : Int × Unit → Nat × Unit → Nat), (x.fst = x.fst ∧ x.fst = x.fst ∧ I ((0 : Int), ())
  ((0 : Nat), ())) ∧ ∀ (y : Int × Unit) (z : Nat × Unit), Kd.wf (Kd.int IntKind.i64) y.fst ∧ True → True → I y z → (z.fst < List.length x.fst → (decide ((↑(udec x.fst z.fst).fst : Int) ≠
  (65533 : Int)) = true → x.fst = x.fst ∧ x.fst = x.fst ∧ I (y.fst, ()) (z.fst + (udec x.fst z.fst).snd, ()) ∧ μ (y.fst, ()) (z.fst + (udec x.fst z.fst).snd, ()) < μ y z) ∧ (decide ((↑(udec
  x.fst z.fst).fst : Int) ≠ (65533 : Int)) = false → ((0 : Int) ≤ (↑z.fst : Int) ∧ (↑z.fst : Int) ≤ (↑(List.length x.fst) : Int)) ∧ True ∧ (∀ (y_1 : Int × Int × Unit), Kd.wf (Kd.int
  IntKind.i32) y_1.fst ∧ Kd.wf (Kd.int IntKind.i64) y_1.snd.fst ∧ True → y_1.fst = (decD (List.drop (Int.toNat (↑z.fst : Int)) x.fst)).fst ∧ y_1.snd.fst = (decD (List.drop (Int.toNat (↑z.fst
  : Int)) x.fst)).snd → (decide (y_1.snd.fst = (1 : Int)) = true → (↑z.fst : Int) = (↑(vld x.fst (0 : Nat)) : Int)) ∧ (decide (y_1.snd.fst = (1 : Int)) = false → x.fst = x.fst ∧ x.fst = x.fst
  ∧ I (y.fst, ()) (z.fst + (udec x.fst z.fst).snd, ()) ∧ μ (y.fst, ()) (z.fst + (udec x.fst z.fst).snd, ()) < μ y z)) ∧ True)) ∧ (List.length x.fst ≤ z.fst → (↑(List.length x.fst) : Int) =
  (↑(vld x.fst (0 : Nat)) : Int))
theorem e84 : t84 = Con.vc c_text_Valid GL (mkEnv ty [(110, conSem c_utf8_DecodeRuneInString)] [] [] [0, 2, 3, 4, 6, 8, 9, 10, 14, 23]) {} Tryd.f84.ntmps Tryd.f84.results.toList (bodyOf Tryd.f84) := by kernel_rfl
theorem k84 : t84 := by
  unfold t84
  rintro ⟨l, _⟩ hx hp
  have hw : Kd.wf Kd.str l := hx.1
  try dsimp +instances only [dft_int, dft_sl, dft_str]
  simp only [true_and, and_true, eq_self_iff_true, implies_true, reduceCtorEq, false_implies, true_implies, decide_eq_true_eq, decide_eq_false_iff_not, beq_self_eq_true, Bool.not_eq_true', ne_eq, Decidable.not_not, List.nil_append, List.length_singleton, List.length_cons, List.length_nil, Nat.zero_add, Nat.add_zero, Nat.mul_one, and_self, beq_iff_eq, Bool.not_true, Bool.not_false, Bool.not_eq_false', Bool.cond_false_right, Bool.and_eq_true, imp_self, Bool.not_eq_true, Bool.cond_true_left, Bool.or_eq_true]
  refine ⟨fun _ z => z.1 ≤ l.length ∧ vld l 0 = vld l z.1, fun _ z => l.length - z.1, ⟨Nat.zero_le _, rfl⟩, ?_⟩
  rintro ⟨r, _⟩ ⟨i, _⟩ _ ⟨h0, h1⟩
  simp only at h0 h1 ⊢
  refine ⟨fun hlt => ?_, fun hge => ?_⟩
  · have hu := udec_w l i hlt
    have go : ¬ ((udec l i).1 = 65533 ∧ (udec l i).2 = 1) → (i + (udec l i).2 ≤ l.length ∧ vld l 0 = vld l (i + (udec l i).2)) ∧ l.length - (i + (udec l i).2) < l.length - i := fun h => by
      have hc : chw l i = (udec l i).2 := by rw [chw, if_neg h]
      have := vld_step hlt (by rw [hc]; omega)
      rw [hc] at this
      exact ⟨⟨hu.2.2, by rw [h1, this]⟩, by omega⟩
    refine ⟨fun h => go (fun hc => h (by omega)), fun h => ⟨⟨by omega, by omega⟩, ?_⟩⟩
    rintro ⟨a, b, _⟩ _ ⟨ea, eb⟩
    simp only at ea eb ⊢
    rw [Int.toNat_natCast, dec_drop l i hlt] at ea eb
    simp only at ea eb
    refine ⟨fun hb => ?_, fun hb => go (fun hc => hb (by omega))⟩
    rw [h1, vld_stop (fun hc => hc.2 (by rw [chw, if_pos (by omega)]))]
  · rw [h1, vld_stop (fun hc => by omega)]
    omega
theorem h84 : c_text_Valid.ok Tryd.prog GL 84 := con_ok (H := {}) (mkEnv_ok (gl := GL) (l := [(110, conSem c_utf8_DecodeRuneInString)]) (q := []) (d := []) _ tyOk (by kernel_rfl) ⟨h110.call, trivial⟩ trivial trivial) (by kernel_rfl) (by kernel_rfl) (Eq.mp e84 k84)

def t121 : Prop :=
  ∀ (x : List Int × Int × Int × Unit), Kd.wf Kd.str x.fst ∧ Kd.wf (Kd.int IntKind.i64) x.snd.fst ∧ Kd.wf (Kd.int IntKind.i64) x.snd.snd.fst ∧ True → List.length x.fst ≤ (1000000000 : Nat) ∧
  (0 : Int) ≤ x.snd.fst ∧ x.snd.fst ≤ (1000000000 : Int) ∧ (0 : Int) ≤ x.snd.snd.fst ∧ x.snd.snd.fst ≤ (3 : Int) → ∃ (I : Int × Bool × Unit → Unit → Prop), ∃ (μ : Int × Bool × Unit → Unit →
  Nat), (x.fst = x.fst ∧ x.snd.fst = x.snd.fst ∧ x.snd.snd.fst = x.snd.snd.fst ∧ I ((0 : Int), false, ()) ()) ∧ ∀ (y : Int × Bool × Unit) (z : Unit), Kd.wf (Kd.int IntKind.i64) y.fst ∧ Kd.wf
  Kd.bool y.snd.fst ∧ True → True → I y z → (decide (y.fst < x.snd.snd.fst) = true → (decide ((↑(List.length x.fst) : Int) ≤ IntKind.wrap IntKind.i64 (x.snd.fst + y.fst)) = false → True) ∧
  (decide ((↑(List.length x.fst) : Int) ≤ IntKind.wrap IntKind.i64 (x.snd.fst + y.fst)) = false → True) ∧ (decide ((↑(List.length x.fst) : Int) ≤ IntKind.wrap IntKind.i64 (x.snd.fst + y.fst))
  = false → True) ∧ (decide ((↑(List.length x.fst) : Int) ≤ IntKind.wrap IntKind.i64 (x.snd.fst + y.fst)) = false → (decide ((↑(List.length x.fst) : Int) ≤ IntKind.wrap IntKind.i64 (x.snd.fst
  + y.fst)) == false) = true ∧ (decide ((↑(List.length x.fst) : Int) ≤ IntKind.wrap IntKind.i64 (x.snd.fst + y.fst)) == false) = true ∧ True) ∧ (decide ((↑(List.length x.fst) : Int) ≤
  IntKind.wrap IntKind.i64 (x.snd.fst + y.fst)) = false → (decide ((↑(List.length x.fst) : Int) ≤ IntKind.wrap IntKind.i64 (x.snd.fst + y.fst)) == false) = true ∧ (decide ((↑(List.length
  x.fst) : Int) ≤ IntKind.wrap IntKind.i64 (x.snd.fst + y.fst)) == false) = true ∧ ((0 : Int) ≤ IntKind.wrap IntKind.i64 (x.snd.fst + y.fst) ∧ IntKind.wrap IntKind.i64 (x.snd.fst + y.fst) <
  (↑(List.length x.fst) : Int)) ∧ True) ∧ (decide ((↑(List.length x.fst) : Int) ≤ IntKind.wrap IntKind.i64 (x.snd.fst + y.fst)) = false → (decide ((↑(List.length x.fst) : Int) ≤ IntKind.wrap
  IntKind.i64 (x.snd.fst + y.fst)) == false) = true ∧ True) ∧ (decide ((↑(List.length x.fst) : Int) ≤ IntKind.wrap IntKind.i64 (x.snd.fst + y.fst)) = false → (decide ((↑(List.length x.fst) :
  Int) ≤ IntKind.wrap IntKind.i64 (x.snd.fst + y.fst)) == false) = true) ∧ ((bif decide ((↑(List.length x.fst) : Int) ≤ IntKind.wrap IntKind.i64 (x.snd.fst + y.fst)) then true else decide
  (List.getD x.fst (Int.toNat (IntKind.wrap IntKind.i64 (x.snd.fst + y.fst))) (0 : Int) < (128 : Int))) = false → True) ∧ ((bif decide ((↑(List.length x.fst) : Int) ≤ IntKind.wrap IntKind.i64
  (x.snd.fst + y.fst)) then true else decide (List.getD x.fst (Int.toNat (IntKind.wrap IntKind.i64 (x.snd.fst + y.fst))) (0 : Int) < (128 : Int))) = false → True) ∧ ((bif decide
  ((↑(List.length x.fst) : Int) ≤ IntKind.wrap IntKind.i64 (x.snd.fst + y.fst)) then true else decide (List.getD x.fst (Int.toNat (IntKind.wrap IntKind.i64 (x.snd.fst + y.fst))) (0 : Int) <
  (128 : Int))) = false → True) ∧ ((bif decide ((↑(List.length x.fst) : Int) ≤ IntKind.wrap IntKind.i64 (x.snd.fst + y.fst)) then true else decide (List.getD x.fst (Int.toNat (IntKind.wrap
  IntKind.i64 (x.snd.fst + y.fst))) (0 : Int) < (128 : Int))) = false → ((bif decide ((↑(List.length x.fst) : Int) ≤ IntKind.wrap IntKind.i64 (x.snd.fst + y.fst)) then true else decide
  (List.getD x.fst (Int.toNat (IntKind.wrap IntKind.i64 (x.snd.fst + y.fst))) (0 : Int) < (128 : Int))) == false) = true ∧ ((bif decide ((↑(List.length x.fst) : Int) ≤ IntKind.wrap
  IntKind.i64 (x.snd.fst + y.fst)) then true else decide (List.getD x.fst (Int.toNat (IntKind.wrap IntKind.i64 (x.snd.fst + y.fst))) (0 : Int) < (128 : Int))) == false) = true ∧ True) ∧ ((bif
  decide ((↑(List.length x.fst) : Int) ≤ IntKind.wrap IntKind.i64 (x.snd.fst + y.fst)) then true else decide (List.getD x.fst (Int.toNat (IntKind.wrap IntKind.i64 (x.snd.fst + y.fst))) (0 :
  Int) < (128 : Int))) = false → ((bif decide ((↑(List.length x.fst) : Int) ≤ IntKind.wrap IntKind.i64 (x.snd.fst + y.fst)) then true else decide (List.getD x.fst (Int.toNat (IntKind.wrap
  IntKind.i64 (x.snd.fst + y.fst))) (0 : Int) < (128 : Int))) == false) = true ∧ ((bif decide ((↑(List.length x.fst) : Int) ≤ IntKind.wrap IntKind.i64 (x.snd.fst + y.fst)) then true else
  decide (List.getD x.fst (Int.toNat (IntKind.wrap IntKind.i64 (x.snd.fst + y.fst))) (0 : Int) < (128 : Int))) == false) = true ∧ ((0 : Int) ≤ IntKind.wrap IntKind.i64 (x.snd.fst + y.fst) ∧
  IntKind.wrap IntKind.i64 (x.snd.fst + y.fst) < (↑(List.length x.fst) : Int)) ∧ True) ∧ ((bif decide ((↑(List.length x.fst) : Int) ≤ IntKind.wrap IntKind.i64 (x.snd.fst + y.fst)) then true
  else decide (List.getD x.fst (Int.toNat (IntKind.wrap IntKind.i64 (x.snd.fst + y.fst))) (0 : Int) < (128 : Int))) = false → ((bif decide ((↑(List.length x.fst) : Int) ≤ IntKind.wrap
  IntKind.i64 (x.snd.fst + y.fst)) then true else decide (List.getD x.fst (Int.toNat (IntKind.wrap IntKind.i64 (x.snd.fst + y.fst))) (0 : Int) < (128 : Int))) == false) = true ∧ True) ∧ ((bif
  decide ((↑(List.length x.fst) : Int) ≤ IntKind.wrap IntKind.i64 (x.snd.fst + y.fst)) then true else decide (List.getD x.fst (Int.toNat (IntKind.wrap IntKind.i64 (x.snd.fst + y.fst))) (0 :
  Int) < (128 : Int))) = false → ((bif decide ((↑(List.length x.fst) : Int) ≤ IntKind.wrap IntKind.i64 (x.snd.fst + y.fst)) then true else decide (List.getD x.fst (Int.toNat (IntKind.wrap
  IntKind.i64 (x.snd.fst + y.fst))) (0 : Int) < (128 : Int))) == false) = true) ∧ ((bif bif decide ((↑(List.length x.fst) : Int) ≤ IntKind.wrap IntKind.i64 (x.snd.fst + y.fst)) then true else
  decide (List.getD x.fst (Int.toNat (IntKind.wrap IntKind.i64 (x.snd.fst + y.fst))) (0 : Int) < (128 : Int)) then true else decide ((191 : Int) < List.getD x.fst (Int.toNat (IntKind.wrap
  IntKind.i64 (x.snd.fst + y.fst))) (0 : Int))) = true → false = moreD x.fst (Int.toNat x.snd.fst) (Int.toNat x.snd.snd.fst)) ∧ ((bif bif decide ((↑(List.length x.fst) : Int) ≤ IntKind.wrap
  IntKind.i64 (x.snd.fst + y.fst)) then true else decide (List.getD x.fst (Int.toNat (IntKind.wrap IntKind.i64 (x.snd.fst + y.fst))) (0 : Int) < (128 : Int)) then true else decide ((191 :
  Int) < List.getD x.fst (Int.toNat (IntKind.wrap IntKind.i64 (x.snd.fst + y.fst))) (0 : Int))) = false → x.fst = x.fst ∧ x.snd.fst = x.snd.fst ∧ x.snd.snd.fst = x.snd.snd.fst ∧ I
  (IntKind.wrap IntKind.i64 (y.fst + (1 : Int)), y.snd.fst, ()) () ∧ μ (IntKind.wrap IntKind.i64 (y.fst + (1 : Int)), y.snd.fst, ()) () < μ y z)) ∧ (decide (y.fst < x.snd.snd.fst) = false →
  true = moreD x.fst (Int.toNat x.snd.fst) (Int.toNat x.snd.snd.fst))
theorem e121 : t121 = Con.vc c_r05_more GL (mkEnv ty [] [] [] [0, 1, 2, 6, 7, 10, 34]) {} Tryd.f121.ntmps Tryd.f121.results.toList (bodyOf Tryd.f121) := by kernel_rfl
theorem k121 : t121 := by
  unfold t121
  rintro ⟨l, m, n, _⟩ hx ⟨hp1, hp2, hp3, hp4, hp5⟩
  have hp1 : l.length ≤ 1000000000 := hp1
  have hp2 : 0 ≤ m := hp2
  have hp3 : m ≤ 1000000000 := hp3
  have hp4 : 0 ≤ n := hp4
  have hp5 : n ≤ 3 := hp5
  try dsimp +instances only [dft_int, dft_sl, dft_str]
  simp only [true_and, and_true, eq_self_iff_true, implies_true, reduceCtorEq, false_implies, true_implies, decide_eq_true_eq, decide_eq_false_iff_not, beq_self_eq_true, Bool.not_eq_true', ne_eq, Decidable.not_not, List.nil_append, List.length_singleton, List.length_cons, List.length_nil, Nat.zero_add, Nat.add_zero, Nat.mul_one, and_self, beq_iff_eq, Bool.not_true, Bool.not_false, Bool.not_eq_false', Bool.cond_false_right, Bool.and_eq_true, imp_self, Bool.not_eq_true, Bool.cond_true_left, Bool.or_eq_true]
  refine ⟨fun y _ => 0 ≤ y.1 ∧ y.1 ≤ n ∧ ∀ j, j < y.1.toNat → m.toNat + j < l.length ∧ 128 ≤ l.getD (m.toNat + j) 0 ∧ l.getD (m.toNat + j) 0 ≤ 191, fun y _ => (n - y.1).toNat, ⟨by omega, hp4, fun j hj => by simp at hj⟩, ?_⟩
  rintro ⟨i, b, _⟩ z _ ⟨h0, h1, h2⟩
  simp only at h0 h1 h2 ⊢
  have hw : IntKind.wrap .i64 (m + i) = m + i := wrapK _ (by omega) (by omega)
  have hw2 : IntKind.wrap .i64 (i + 1) = i + 1 := wrapK _ (by omega) (by omega)
  have e : (m + i).toNat = m.toNat + i.toNat := by omega
  refine ⟨fun hlt => ⟨fun h => ⟨h, h, by rw [hw]; omega, by omega⟩, fun h => ⟨h, h, by rw [hw]; omega, ?_⟩, fun h => ?_, fun h => ?_⟩, fun hge => ?_⟩
  · rcases Bool.or_eq_false_iff.1 h with ⟨h3, _⟩
    have := of_decide_eq_false h3
    omega
  · symm
    rw [moreD, List.all_eq_false]
    refine ⟨i.toNat, by simp; omega, ?_⟩
    rw [hw, e] at h
    simp only [decide_eq_true_eq]
    omega
  · rcases Bool.or_eq_false_iff.1 h with ⟨h3, h4⟩
    rcases Bool.or_eq_false_iff.1 h3 with ⟨h5, h6⟩
    have h5 := of_decide_eq_false h5
    have h6 := of_decide_eq_false h6
    have h4 := of_decide_eq_false h4
    rw [hw] at h5 h6 h4
    rw [e] at h6 h4
    rw [hw2]
    refine ⟨⟨by omega, by omega, fun j hj => ?_⟩, by omega⟩
    by_cases hji : j < i.toNat
    · exact h2 j hji
    · rw [show j = i.toNat by omega]
      omega
  · symm
    rw [moreD, List.all_eq_true]
    intro j hj
    rw [decide_eq_true_eq]
    exact h2 j (by simp at hj; omega)
theorem h121 : c_r05_more.ok Tryd.prog GL 121 := con_ok (H := {}) (mkEnv_ok (gl := GL) (l := []) (q := []) (d := []) _ tyOk (by kernel_rfl) trivial trivial trivial) (by kernel_rfl) (by kernel_rfl) (Eq.mp e121 k121)

def t113 : Prop :=
  ∀ (x : List Int × Int × Unit), Kd.wf Kd.str x.fst ∧ Kd.wf (Kd.int IntKind.i64) x.snd.fst ∧ True → List.length x.fst ≤ (1000000000 : Nat) ∧ (0 : Int) ≤ x.snd.fst ∧ x.snd.fst < (↑(List.length
  x.fst) : Int) → ((0 : Int) ≤ x.snd.fst ∧ x.snd.fst < (↑(List.length x.fst) : Int)) ∧ (decide (IntKind.wrap IntKind.i64 (List.getD x.fst (Int.toNat x.snd.fst) (0 : Int)) < (128 : Int)) =
  true → (1 : Int) = (↑(chw x.fst (Int.toNat x.snd.fst)) : Int)) ∧ (decide (IntKind.wrap IntKind.i64 (List.getD x.fst (Int.toNat x.snd.fst) (0 : Int)) < (128 : Int)) = false → (decide
  (IntKind.wrap IntKind.i64 (List.getD x.fst (Int.toNat x.snd.fst) (0 : Int)) < (192 : Int)) = false → True) ∧ (decide (IntKind.wrap IntKind.i64 (List.getD x.fst (Int.toNat x.snd.fst) (0 :
  Int)) < (192 : Int)) = false → (decide (IntKind.wrap IntKind.i64 (List.getD x.fst (Int.toNat x.snd.fst) (0 : Int)) < (192 : Int)) == false) = true ∧ True) ∧ (decide (IntKind.wrap
  IntKind.i64 (List.getD x.fst (Int.toNat x.snd.fst) (0 : Int)) < (192 : Int)) = false → (decide (IntKind.wrap IntKind.i64 (List.getD x.fst (Int.toNat x.snd.fst) (0 : Int)) < (192 : Int)) ==
  false) = true) ∧ ((bif decide (IntKind.wrap IntKind.i64 (List.getD x.fst (Int.toNat x.snd.fst) (0 : Int)) < (192 : Int)) then true else decide ((247 : Int) < IntKind.wrap IntKind.i64
  (List.getD x.fst (Int.toNat x.snd.fst) (0 : Int)))) = true → (0 : Int) = (↑(chw x.fst (Int.toNat x.snd.fst)) : Int)) ∧ ((bif decide (IntKind.wrap IntKind.i64 (List.getD x.fst (Int.toNat
  x.snd.fst) (0 : Int)) < (192 : Int)) then true else decide ((247 : Int) < IntKind.wrap IntKind.i64 (List.getD x.fst (Int.toNat x.snd.fst) (0 : Int)))) = false → ∃ (J : Int × Int × Unit →
  Unit → Prop), ((decide ((224 : Int) ≤ IntKind.wrap IntKind.i64 (List.getD x.fst (Int.toNat x.snd.fst) (0 : Int))) = true → Value.bool false = Value.bool false ∧ Value.bool false =
  Value.bool false ∧ IntKind.wrap IntKind.i64 (List.getD x.fst (Int.toNat x.snd.fst) (0 : Int)) = IntKind.wrap IntKind.i64 (List.getD x.fst (Int.toNat x.snd.fst) (0 : Int)) ∧ (0 : Int) = (0 :
  Int) ∧ x.fst = x.fst ∧ x.snd.fst = x.snd.fst ∧ J (IntKind.wrap IntKind.i64 (IntKind.wrap IntKind.i64 (List.getD x.fst (Int.toNat x.snd.fst) (0 : Int)) - (224 : Int)), (2 : Int), ()) ()) ∧
  (decide ((224 : Int) ≤ IntKind.wrap IntKind.i64 (List.getD x.fst (Int.toNat x.snd.fst) (0 : Int))) = false → Value.bool false = Value.bool false ∧ Value.bool false = Value.bool false ∧
  IntKind.wrap IntKind.i64 (List.getD x.fst (Int.toNat x.snd.fst) (0 : Int)) = IntKind.wrap IntKind.i64 (List.getD x.fst (Int.toNat x.snd.fst) (0 : Int)) ∧ (0 : Int) = (0 : Int) ∧ x.fst =
  x.fst ∧ x.snd.fst = x.snd.fst ∧ J (IntKind.wrap IntKind.i64 (IntKind.wrap IntKind.i64 (List.getD x.fst (Int.toNat x.snd.fst) (0 : Int)) - (192 : Int)), (1 : Int), ()) ())) ∧ ∀ (u : Int ×
  Int × Unit) (z : Unit), Kd.wf (Kd.int IntKind.i64) u.fst ∧ Kd.wf (Kd.int IntKind.i64) u.snd.fst ∧ True → True → J u z → ∃ (J : Int × Int × Unit → Unit → Prop), ((decide ((240 : Int) ≤
  IntKind.wrap IntKind.i64 (List.getD x.fst (Int.toNat x.snd.fst) (0 : Int))) = true → Value.bool false = Value.bool false ∧ Value.bool false = Value.bool false ∧ IntKind.wrap IntKind.i64
  (List.getD x.fst (Int.toNat x.snd.fst) (0 : Int)) = IntKind.wrap IntKind.i64 (List.getD x.fst (Int.toNat x.snd.fst) (0 : Int)) ∧ (0 : Int) = (0 : Int) ∧ x.fst = x.fst ∧ x.snd.fst =
  x.snd.fst ∧ J (IntKind.wrap IntKind.i64 (IntKind.wrap IntKind.i64 (List.getD x.fst (Int.toNat x.snd.fst) (0 : Int)) - (240 : Int)), (3 : Int), ()) ()) ∧ (decide ((240 : Int) ≤ IntKind.wrap
  IntKind.i64 (List.getD x.fst (Int.toNat x.snd.fst) (0 : Int))) = false → Value.bool false = Value.bool false ∧ Value.bool false = Value.bool false ∧ IntKind.wrap IntKind.i64 (List.getD
  x.fst (Int.toNat x.snd.fst) (0 : Int)) = IntKind.wrap IntKind.i64 (List.getD x.fst (Int.toNat x.snd.fst) (0 : Int)) ∧ (0 : Int) = (0 : Int) ∧ x.fst = x.fst ∧ x.snd.fst = x.snd.fst ∧ J
  (u.fst, u.snd.fst, ()) ())) ∧ ∀ (u : Int × Int × Unit) (z : Unit), Kd.wf (Kd.int IntKind.i64) u.fst ∧ Kd.wf (Kd.int IntKind.i64) u.snd.fst ∧ True → True → J u z → (List.length x.fst ≤
  (1000000000 : Nat) ∧ (0 : Int) ≤ IntKind.wrap IntKind.i64 (x.snd.fst + (1 : Int)) ∧ IntKind.wrap IntKind.i64 (x.snd.fst + (1 : Int)) ≤ (1000000000 : Int) ∧ (0 : Int) ≤ u.snd.fst ∧ u.snd.fst
  ≤ (3 : Int)) ∧ (∀ (y : Bool × Unit), Kd.wf Kd.bool y.fst ∧ True → y.fst = moreD x.fst (Int.toNat (IntKind.wrap IntKind.i64 (x.snd.fst + (1 : Int)))) (Int.toNat u.snd.fst) → ((!y.fst) = true
  → (0 : Int) = (↑(chw x.fst (Int.toNat x.snd.fst)) : Int)) ∧ ((!y.fst) = false → ∃ (I : Int × Int × Unit → Unit → Prop), ∃ (μ : Int × Int × Unit → Unit → Nat), (Value.bool false = Value.bool
  false ∧ u.snd.fst = u.snd.fst ∧ Value.bool false = Value.bool false ∧ Value.bool false = Value.bool false ∧ IntKind.wrap IntKind.i64 (List.getD x.fst (Int.toNat x.snd.fst) (0 : Int)) =
  IntKind.wrap IntKind.i64 (List.getD x.fst (Int.toNat x.snd.fst) (0 : Int)) ∧ (0 : Int) = (0 : Int) ∧ x.fst = x.fst ∧ x.snd.fst = x.snd.fst ∧ I ((1 : Int), u.fst, ()) ()) ∧ ∀ (y : Int × Int
  × Unit) (z : Unit), Kd.wf (Kd.int IntKind.i64) y.fst ∧ Kd.wf (Kd.int IntKind.i64) y.snd.fst ∧ True → True → I y z → (decide (y.fst ≤ u.snd.fst) = true → ((0 : Int) ≤ IntKind.wrap
  IntKind.i64 (x.snd.fst + y.fst) ∧ IntKind.wrap IntKind.i64 (x.snd.fst + y.fst) < (↑(List.length x.fst) : Int)) ∧ Value.bool false = Value.bool false ∧ u.snd.fst = u.snd.fst ∧ Value.bool
  false = Value.bool false ∧ Value.bool false = Value.bool false ∧ IntKind.wrap IntKind.i64 (List.getD x.fst (Int.toNat x.snd.fst) (0 : Int)) = IntKind.wrap IntKind.i64 (List.getD x.fst
  (Int.toNat x.snd.fst) (0 : Int)) ∧ (0 : Int) = (0 : Int) ∧ x.fst = x.fst ∧ x.snd.fst = x.snd.fst ∧ I (IntKind.wrap IntKind.i64 (y.fst + (1 : Int)), IntKind.wrap IntKind.i64 (IntKind.wrap
  IntKind.i64 (IntKind.wrap IntKind.i64 ((64 : Int) * y.snd.fst) + IntKind.wrap IntKind.i64 (List.getD x.fst (Int.toNat (IntKind.wrap IntKind.i64 (x.snd.fst + y.fst))) (0 : Int))) - (128 :
  Int)), ()) () ∧ μ (IntKind.wrap IntKind.i64 (y.fst + (1 : Int)), IntKind.wrap IntKind.i64 (IntKind.wrap IntKind.i64 (IntKind.wrap IntKind.i64 ((64 : Int) * y.snd.fst) + IntKind.wrap
  IntKind.i64 (List.getD x.fst (Int.toNat (IntKind.wrap IntKind.i64 (x.snd.fst + y.fst))) (0 : Int))) - (128 : Int)), ()) () < μ y z) ∧ (decide (y.fst ≤ u.snd.fst) = false → ∃ (J : Int × Unit
  → Unit → Prop), ((decide (u.snd.fst = (2 : Int)) = true → Value.bool false = Value.bool false ∧ y.fst = y.fst ∧ Value.bool false = Value.bool false ∧ y.snd.fst = y.snd.fst ∧ u.snd.fst =
  u.snd.fst ∧ Value.bool false = Value.bool false ∧ Value.bool false = Value.bool false ∧ IntKind.wrap IntKind.i64 (List.getD x.fst (Int.toNat x.snd.fst) (0 : Int)) = IntKind.wrap IntKind.i64
  (List.getD x.fst (Int.toNat x.snd.fst) (0 : Int)) ∧ (0 : Int) = (0 : Int) ∧ x.fst = x.fst ∧ x.snd.fst = x.snd.fst ∧ J ((2048 : Int), ()) ()) ∧ (decide (u.snd.fst = (2 : Int)) = false →
  Value.bool false = Value.bool false ∧ y.fst = y.fst ∧ Value.bool false = Value.bool false ∧ y.snd.fst = y.snd.fst ∧ u.snd.fst = u.snd.fst ∧ Value.bool false = Value.bool false ∧ Value.bool
  false = Value.bool false ∧ IntKind.wrap IntKind.i64 (List.getD x.fst (Int.toNat x.snd.fst) (0 : Int)) = IntKind.wrap IntKind.i64 (List.getD x.fst (Int.toNat x.snd.fst) (0 : Int)) ∧ (0 :
  Int) = (0 : Int) ∧ x.fst = x.fst ∧ x.snd.fst = x.snd.fst ∧ J ((128 : Int), ()) ())) ∧ ∀ (u_1 : Int × Unit) (z : Unit), Kd.wf (Kd.int IntKind.i64) u_1.fst ∧ True → True → J u_1 z → ∃ (J :
  Int × Unit → Unit → Prop), ((decide (u.snd.fst = (3 : Int)) = true → Value.bool false = Value.bool false ∧ y.fst = y.fst ∧ Value.bool false = Value.bool false ∧ y.snd.fst = y.snd.fst ∧
  u.snd.fst = u.snd.fst ∧ Value.bool false = Value.bool false ∧ Value.bool false = Value.bool false ∧ IntKind.wrap IntKind.i64 (List.getD x.fst (Int.toNat x.snd.fst) (0 : Int)) = IntKind.wrap
  IntKind.i64 (List.getD x.fst (Int.toNat x.snd.fst) (0 : Int)) ∧ (0 : Int) = (0 : Int) ∧ x.fst = x.fst ∧ x.snd.fst = x.snd.fst ∧ J ((65536 : Int), ()) ()) ∧ (decide (u.snd.fst = (3 : Int)) =
  false → Value.bool false = Value.bool false ∧ y.fst = y.fst ∧ Value.bool false = Value.bool false ∧ y.snd.fst = y.snd.fst ∧ u.snd.fst = u.snd.fst ∧ Value.bool false = Value.bool false ∧
  Value.bool false = Value.bool false ∧ IntKind.wrap IntKind.i64 (List.getD x.fst (Int.toNat x.snd.fst) (0 : Int)) = IntKind.wrap IntKind.i64 (List.getD x.fst (Int.toNat x.snd.fst) (0 : Int))
  ∧ (0 : Int) = (0 : Int) ∧ x.fst = x.fst ∧ x.snd.fst = x.snd.fst ∧ J (u_1.fst, ()) ())) ∧ ∀ (u_2 : Int × Unit) (z : Unit), Kd.wf (Kd.int IntKind.i64) u_2.fst ∧ True → True → J u_2 z →
  (decide (y.snd.fst < u_2.fst) = false → True) ∧ (decide (y.snd.fst < u_2.fst) = false → (decide (y.snd.fst < u_2.fst) == false) = true ∧ True) ∧ (decide (y.snd.fst < u_2.fst) = false →
  (decide (y.snd.fst < u_2.fst) == false) = true) ∧ ((bif decide (y.snd.fst < u_2.fst) then true else decide ((1114111 : Int) < y.snd.fst)) = false → True) ∧ ((bif decide (y.snd.fst <
  u_2.fst) then true else decide ((1114111 : Int) < y.snd.fst)) = false → ((bif decide (y.snd.fst < u_2.fst) then true else decide ((1114111 : Int) < y.snd.fst)) == false) = true ∧ True) ∧
  ((bif decide (y.snd.fst < u_2.fst) then true else decide ((1114111 : Int) < y.snd.fst)) = false → True) ∧ (((bif decide (y.snd.fst < u_2.fst) then true else decide ((1114111 : Int) <
  y.snd.fst)) == false && (bif decide (y.snd.fst < u_2.fst) then true else decide ((1114111 : Int) < y.snd.fst)) == false) = true → decide ((55296 : Int) ≤ y.snd.fst) = true → True) ∧ (((bif
  decide (y.snd.fst < u_2.fst) then true else decide ((1114111 : Int) < y.snd.fst)) == false && (bif decide (y.snd.fst < u_2.fst) then true else decide ((1114111 : Int) < y.snd.fst)) ==
  false) = true → decide ((55296 : Int) ≤ y.snd.fst) = true → ((bif decide (y.snd.fst < u_2.fst) then true else decide ((1114111 : Int) < y.snd.fst)) == false && (bif decide (y.snd.fst <
  u_2.fst) then true else decide ((1114111 : Int) < y.snd.fst)) == false && decide ((55296 : Int) ≤ y.snd.fst) == true) = true ∧ True) ∧ ((bif decide (y.snd.fst < u_2.fst) then true else
  decide ((1114111 : Int) < y.snd.fst)) = false → ((bif decide (y.snd.fst < u_2.fst) then true else decide ((1114111 : Int) < y.snd.fst)) == false && (bif decide (y.snd.fst < u_2.fst) then
  true else decide ((1114111 : Int) < y.snd.fst)) == false) = true ∧ (decide ((55296 : Int) ≤ y.snd.fst) = true → ((bif decide (y.snd.fst < u_2.fst) then true else decide ((1114111 : Int) <
  y.snd.fst)) == false && (bif decide (y.snd.fst < u_2.fst) then true else decide ((1114111 : Int) < y.snd.fst)) == false && decide ((55296 : Int) ≤ y.snd.fst) == true) = true) ∧ True) ∧
  ((bif decide (y.snd.fst < u_2.fst) then true else decide ((1114111 : Int) < y.snd.fst)) = false → ((bif decide (y.snd.fst < u_2.fst) then true else decide ((1114111 : Int) < y.snd.fst)) ==
  false) = true) ∧ ((bif bif decide (y.snd.fst < u_2.fst) then true else decide ((1114111 : Int) < y.snd.fst) then true else bif decide ((55296 : Int) ≤ y.snd.fst) then decide (y.snd.fst ≤
  (57343 : Int)) else false) = true → (0 : Int) = (↑(chw x.fst (Int.toNat x.snd.fst)) : Int)) ∧ ((bif bif decide (y.snd.fst < u_2.fst) then true else decide ((1114111 : Int) < y.snd.fst) then
  true else bif decide ((55296 : Int) ≤ y.snd.fst) then decide (y.snd.fst ≤ (57343 : Int)) else false) = false → IntKind.wrap IntKind.i64 (u.snd.fst + (1 : Int)) = (↑(chw x.fst (Int.toNat
  x.snd.fst)) : Int))))) ∧ True))
theorem e113 : t113 = Con.vc c_r05_character GL (mkEnv ty [(121, conSem c_r05_more)] [] [] [0, 1, 4, 5, 6, 7, 8, 9, 15, 21, 25, 29, 37, 40, 54, 56, 71]) {joins := [9,11,20,22]} Tryd.f113.ntmps Tryd.f113.results.toList (bodyOf Tryd.f113) := by kernel_rfl
theorem k113 : t113 := by
  unfold t113
  rintro ⟨l, p, _⟩ hx hp
  have hw : Kd.wf Kd.str l := hx.1
  obtain ⟨hl, hp0, hp1⟩ := hp
  simp only at hp0 hp1 hl
  try dsimp +instances only [dft_int, dft_sl, dft_str]
  simp only [true_and, and_true, eq_self_iff_true, implies_true, reduceCtorEq, false_implies, true_implies, decide_eq_true_eq, decide_eq_false_iff_not, beq_self_eq_true, Bool.not_eq_true', ne_eq, Decidable.not_not, List.nil_append, List.length_singleton, List.length_cons, List.length_nil, Nat.zero_add, Nat.add_zero, Nat.mul_one, and_self, beq_iff_eq, Bool.not_true, Bool.not_false, Bool.not_eq_false', Bool.cond_false_right, Bool.and_eq_true, imp_self, Bool.not_eq_true, Bool.cond_true_left, Bool.or_eq_true]
  obtain ⟨i, rfl⟩ : ∃ i : Nat, p = i := ⟨p.toNat, by omega⟩
  rw [Int.toNat_natCast]
  have hi : i < l.length := by omega
  have hc := str_get hw i
  have hwc : IntKind.wrap .i64 (l.getD i 0) = l.getD i 0 := wrapK _ (by omega) (by omega)
  have hw1 : IntKind.wrap .i64 ((i : Int) + 1) = i + 1 := wrapK _ (by omega) (by omega)
  have e1' : ((i : Int) + 1).toNat = i + 1 := by omega
  rw [hwc, hw1, e1', wrapK (l.getD i 0 - 224) (by omega) (by omega), wrapK (l.getD i 0 - 192) (by omega) (by omega), wrapK (l.getD i 0 - 240) (by omega) (by omega)]
  refine ⟨⟨by omega, by omega⟩, fun h => ?_, fun hge => ⟨fun h => ?_, fun h => ?_⟩⟩
  · obtain ⟨b0, e0, g0⟩ := nat_of l hw i
    obtain ⟨b1, e1, g1⟩ := nat_of l hw (i + 1)
    obtain ⟨b2, e2, g2⟩ := nat_of l hw (i + 2)
    obtain ⟨b3, e3, g3⟩ := nat_of l hw (i + 3)
    rw [chw_at l i e0 e1 e2 e3, dec_low (by omega)]; rfl
  · obtain ⟨b0, e0, g0⟩ := nat_of l hw i
    obtain ⟨b1, e1, g1⟩ := nat_of l hw (i + 1)
    obtain ⟨b2, e2, g2⟩ := nat_of l hw (i + 2)
    obtain ⟨b3, e3, g3⟩ := nat_of l hw (i + 3)
    rw [chw_at l i e0 e1 e2 e3, dec_bad (by omega)]; rfl
  have h0 : 192 ≤ l.getD i 0 ∧ l.getD i 0 ≤ 247 := by
    simp only [Bool.or_eq_false_iff, decide_eq_false_iff_not] at h
    omega
  refine ⟨fun u _ => u.2.1 = 1 ∧ l.getD i 0 < 224 ∧ u.1 = l.getD i 0 - 192 ∨ u.2.1 = 2 ∧ 224 ≤ l.getD i 0 ∧ u.1 = l.getD i 0 - 224, ⟨fun h => .inr ⟨rfl, h, rfl⟩, fun h => .inl ⟨rfl, by omega, rfl⟩⟩, ?_⟩
  rintro ⟨v, n, _⟩ _ _ hJ
  refine ⟨fun u _ => u.2.1 = 1 ∧ l.getD i 0 < 224 ∧ u.1 = l.getD i 0 - 192 ∨ u.2.1 = 2 ∧ 224 ≤ l.getD i 0 ∧ l.getD i 0 < 240 ∧ u.1 = l.getD i 0 - 224 ∨ u.2.1 = 3 ∧ 240 ≤ l.getD i 0 ∧ u.1 = l.getD i 0 - 240, ⟨fun h => .inr (.inr ⟨rfl, h, rfl⟩), fun h => ?_⟩, ?_⟩
  · simp only at hJ ⊢
    omega
  clear hJ
  rintro ⟨v, n, _⟩ _ _ hJ
  simp only at hJ ⊢
  refine ⟨⟨hl, by omega, by omega, by omega, by omega⟩, ?_⟩
  rintro ⟨m, _⟩ _ em
  simp only at em ⊢
  refine ⟨fun h => ?_, fun h => ?_⟩
  · rw [chw_mid hw hi h0 (by omega) (em.symm.trans h)]; rfl
  have hm := em.symm.trans h
  have hm2 := (more_iff l (i + 1) n.toNat).1 hm
  refine ⟨fun y _ => 1 ≤ y.1 ∧ y.1 ≤ n + 1 ∧ y.2.1 = valK v (l.getD (i + 1) 0) (l.getD (i + 2) 0) (l.getD (i + 3) 0) y.1, fun y _ => (n + 1 - y.1).toNat, ⟨by omega, by omega, rfl⟩, ?_⟩
  rintro ⟨k, a, _⟩ _ _ ⟨k1, k2, ek⟩
  simp only at k1 k2 ek ⊢
  refine ⟨fun hk => ?_, fun hk => ?_⟩
  · obtain ⟨m1, m2, m3⟩ := hm2 (k - 1).toNat (by omega)
    have ei : i + 1 + (k - 1).toNat = ((i : Int) + k).toNat := by omega
    rw [ei] at m1 m2 m3
    have hbd : ∀ j, 0 ≤ l.getD j 0 ∧ l.getD j 0 ≤ 255 := str_get hw
    have b1 := hbd (i + 1)
    have b2 := hbd (i + 2)
    have b3 := hbd (i + 3)
    have ha : -100000 ≤ a ∧ a ≤ 10000000 := by
      rw [ek]
      unfold valK
      split
      · omega
      · split
        · omega
        · split <;> omega
    have e1 : IntKind.wrap .i64 ((i : Int) + k) = i + k := wrapK _ (by omega) (by omega)
    have e2 : IntKind.wrap .i64 (k + 1) = k + 1 := wrapK _ (by omega) (by omega)
    have e3 : IntKind.wrap .i64 (64 * a) = 64 * a := wrapK _ (by omega) (by omega)
    have e4 : IntKind.wrap .i64 (l.getD ((i : Int) + k).toNat 0) = l.getD ((i : Int) + k).toNat 0 := wrapK _ (by omega) (by omega)
    rw [e1, e2, e3, e4, wrapK (64 * a + l.getD ((i : Int) + k).toNat 0) (by omega) (by omega), wrapK (64 * a + l.getD ((i : Int) + k).toNat 0 - 128) (by omega) (by omega)]
    refine ⟨⟨by omega, by omega⟩, ⟨by omega, by omega, ?_⟩, by omega⟩
    rcases (show k = 1 ∨ k = 2 ∨ k = 3 by omega) with rfl | rfl | rfl
    · rw [show ((i : Int) + 1).toNat = i + 1 by omega, ek]; rfl
    · rw [show ((i : Int) + 2).toNat = i + 2 by omega, ek]; rfl
    · rw [show ((i : Int) + 3).toNat = i + 3 by omega, ek]; rfl
  · obtain rfl : k = n + 1 := by omega
    refine ⟨fun u _ => n = 2 ∧ u.1 = 2048 ∨ n ≠ 2 ∧ u.1 = 128, ⟨fun h => .inl ⟨h, rfl⟩, fun h => .inr ⟨h, rfl⟩⟩, ?_⟩
    rintro ⟨b, _⟩ _ _ hJ1
    refine ⟨fun u _ => n = 1 ∧ u.1 = 128 ∨ n = 2 ∧ u.1 = 2048 ∨ n = 3 ∧ u.1 = 65536, ⟨fun h => .inr (.inr ⟨h, rfl⟩), fun h => by simp only at hJ1 ⊢; omega⟩, ?_⟩
    clear hJ1
    rintro ⟨b, _⟩ _ _ hJ1
    simp only at hJ1 ⊢
    have key := chw_end hw hi (n := n) (v0 := v) (least := b) h0 (by omega) hm
    rw [← ek] at key
    rw [key, wrapK (n + 1) (by omega) (by omega)]
    refine ⟨fun h1 h2 => ⟨h1, h2⟩, fun h1 => ⟨h1, fun h2 => ⟨h1, h2⟩⟩, fun h1 => ?_, fun h1 => ?_⟩
    · rw [if_pos (by omega)]
    · simp only [Bool.or_eq_false_iff, Bool.and_eq_false_iff, decide_eq_false_iff_not] at h1
      rw [if_neg (by omega)]
theorem h113 : c_r05_character.ok Tryd.prog GL 113 := con_ok (H := {joins := [9,11,20,22]}) (mkEnv_ok (gl := GL) (l := [(121, conSem c_r05_more)]) (q := []) (d := []) _ tyOk (by kernel_rfl) ⟨h121.call, trivial⟩ trivial trivial) (by kernel_rfl) (by kernel_rfl) (Eq.mp e113 k113)

def t98 : Prop :=
  ∀ (x : List Int × Unit), Kd.wf Kd.str x.fst ∧ True → List.length x.fst ≤ (1000000000 : Nat) → ∃ (I : Int × Int × Unit → Unit → Prop), ∃ (μ : Int × Int × Unit → Unit → Nat), (x.fst = x.fst ∧
  I ((0 : Int), (0 : Int), ()) ()) ∧ ∀ (y : Int × Int × Unit) (z : Unit), Kd.wf (Kd.int IntKind.i64) y.fst ∧ Kd.wf (Kd.int IntKind.i64) y.snd.fst ∧ True → True → I y z → (decide (y.fst <
  (↑(List.length x.fst) : Int)) = true → (List.length x.fst ≤ (1000000000 : Nat) ∧ (0 : Int) ≤ y.fst ∧ y.fst < (↑(List.length x.fst) : Int)) ∧ (∀ (y_1 : Int × Unit), Kd.wf (Kd.int
  IntKind.i64) y_1.fst ∧ True → y_1.fst = (↑(chw x.fst (Int.toNat y.fst)) : Int) → (decide (y_1.fst = (0 : Int)) = true → y.fst = (↑(vld x.fst (0 : Nat)) : Int)) ∧ (decide (y_1.fst = (0 :
  Int)) = false → x.fst = x.fst ∧ I (IntKind.wrap IntKind.i64 (y.fst + y_1.fst), y.snd.fst, ()) () ∧ μ (IntKind.wrap IntKind.i64 (y.fst + y_1.fst), y.snd.fst, ()) () < μ y z)) ∧ True) ∧
  (decide (y.fst < (↑(List.length x.fst) : Int)) = false → y.fst = (↑(vld x.fst (0 : Nat)) : Int))
theorem e98 : t98 = Con.vc c_r05_Valid GL (mkEnv ty [(113, conSem c_r05_character)] [] [] [0, 2, 3, 4, 8, 13]) {} Tryd.f98.ntmps Tryd.f98.results.toList (bodyOf Tryd.f98) := by kernel_rfl
theorem k98 : t98 := by
  unfold t98
  rintro ⟨l, _⟩ hx hp
  have hp : l.length ≤ 1000000000 := hp
  try dsimp +instances only [dft_int, dft_sl, dft_str]
  simp only [true_and, and_true, eq_self_iff_true, implies_true, reduceCtorEq, false_implies, true_implies, decide_eq_true_eq, decide_eq_false_iff_not, beq_self_eq_true, Bool.not_eq_true', ne_eq, Decidable.not_not, List.nil_append, List.length_singleton, List.length_cons, List.length_nil, Nat.zero_add, Nat.add_zero, Nat.mul_one, and_self, beq_iff_eq, Bool.not_true, Bool.not_false, Bool.not_eq_false', Bool.cond_false_right, Bool.and_eq_true, imp_self, Bool.not_eq_true, Bool.cond_true_left, Bool.or_eq_true]
  refine ⟨fun y _ => 0 ≤ y.1 ∧ y.1 ≤ l.length ∧ vld l 0 = vld l y.1.toNat, fun y _ => ((l.length : Int) - y.1).toNat, ⟨by omega, by omega, rfl⟩, ?_⟩
  rintro ⟨i, r, _⟩ z _ ⟨h0, h1, h2⟩
  simp only at h0 h1 h2 ⊢
  refine ⟨fun hlt => ⟨⟨hp, h0, hlt⟩, ?_⟩, fun hge => ?_⟩
  · rintro ⟨c, _⟩ _ ec
    simp only at ec ⊢
    have hil : i.toNat < l.length := by omega
    have hle := chw_le l i.toNat hil
    refine ⟨fun h => ?_, fun h => ?_⟩
    · rw [h2, vld_stop (fun hc => hc.2 (by omega))]
      omega
    · have hw : IntKind.wrap .i64 (i + c) = i + c := wrapK _ (by omega) (by omega)
      rw [hw]
      refine ⟨⟨by omega, by omega, ?_⟩, by omega⟩
      rw [h2, vld_step hil (by omega)]
      congr 1
      omega
  · rw [h2, vld_stop (fun hc => by omega)]
    omega
theorem h98 : c_r05_Valid.ok Tryd.prog GL 98 := con_ok (H := {}) (mkEnv_ok (gl := GL) (l := [(113, conSem c_r05_character)]) (q := []) (d := []) _ tyOk (by kernel_rfl) ⟨h113.call, trivial⟩ trivial trivial) (by kernel_rfl) (by kernel_rfl) (Eq.mp e98 k98)

def t82 : Prop :=
  ∀ (x : Int × Unit), Kd.wf (Kd.int IntKind.u8) x.fst ∧ True → True → (decide ((65 : Int) ≤ x.fst) = true → True) ∧ (decide ((65 : Int) ≤ x.fst) = true → (decide ((65 : Int) ≤ x.fst) == true)
  = true ∧ True) ∧ (decide ((65 : Int) ≤ x.fst) = true → (decide ((65 : Int) ≤ x.fst) == true) = true) ∧ ((bif decide ((65 : Int) ≤ x.fst) then decide (x.fst ≤ (90 : Int)) else false) = true
  → IntKind.wrap IntKind.u8 (IntKind.wrap IntKind.u8 (x.fst + (97 : Int)) - (65 : Int)) = smallD x.fst) ∧ ((bif decide ((65 : Int) ≤ x.fst) then decide (x.fst ≤ (90 : Int)) else false) =
  false → x.fst = smallD x.fst)
theorem e82 : t82 = Con.vc c_text_small GL (mkEnv ty [] [] [] [0, 2, 8]) {} Tryd.f82.ntmps Tryd.f82.results.toList (bodyOf Tryd.f82) := by kernel_rfl
theorem k82 : t82 := by
  unfold t82
  rintro ⟨l, _⟩ hx hp
  try dsimp +instances only [dft_int, dft_sl, dft_str]
  simp only [true_and, and_true, eq_self_iff_true, implies_true, reduceCtorEq, false_implies, true_implies, decide_eq_true_eq, decide_eq_false_iff_not, beq_self_eq_true, Bool.not_eq_true', ne_eq, Decidable.not_not, List.nil_append, List.length_singleton, List.length_cons, List.length_nil, Nat.zero_add, Nat.add_zero, Nat.mul_one, and_self, beq_iff_eq, Bool.not_true, Bool.not_false, Bool.not_eq_false', Bool.cond_false_right, Bool.and_eq_true, imp_self, Bool.not_eq_true, Bool.cond_true_left, Bool.or_eq_true]
  refine ⟨fun h => ?_, fun h => ?_⟩
  · rw [smallD, if_pos h]
    simp [IntKind.wrap, IntKind.signed, IntKind.bits]
    omega
  · rw [smallD, if_neg (fun hc => by
      rcases Bool.and_eq_false_iff.1 h with h | h
      · exact of_decide_eq_false h hc.1
      · exact of_decide_eq_false h hc.2)]
theorem h82 : c_text_small.ok Tryd.prog GL 82 := con_ok (H := {}) (mkEnv_ok (gl := GL) (l := []) (q := []) (d := []) _ tyOk (by kernel_rfl) trivial trivial trivial) (by kernel_rfl) (by kernel_rfl) (Eq.mp e82 k82)

def t85 : Prop :=
  ∀ (x : Int × Unit), Kd.wf (Kd.int IntKind.u8) x.fst ∧ True → True → (decide ((97 : Int) ≤ x.fst) = true → True) ∧ (decide ((97 : Int) ≤ x.fst) = true → (decide ((97 : Int) ≤ x.fst) == true)
  = true ∧ True) ∧ (decide ((97 : Int) ≤ x.fst) = true → (decide ((97 : Int) ≤ x.fst) == true) = true) ∧ ((bif decide ((97 : Int) ≤ x.fst) then decide (x.fst ≤ (122 : Int)) else false) = true
  → true = printsD x.fst) ∧ ((bif decide ((97 : Int) ≤ x.fst) then decide (x.fst ≤ (122 : Int)) else false) = false → (decide ((65 : Int) ≤ x.fst) = true → True) ∧ (decide ((65 : Int) ≤
  x.fst) = true → (decide ((65 : Int) ≤ x.fst) == true) = true ∧ True) ∧ (decide ((65 : Int) ≤ x.fst) = true → (decide ((65 : Int) ≤ x.fst) == true) = true) ∧ ((bif decide ((65 : Int) ≤
  x.fst) then decide (x.fst ≤ (90 : Int)) else false) = true → true = printsD x.fst) ∧ ((bif decide ((65 : Int) ≤ x.fst) then decide (x.fst ≤ (90 : Int)) else false) = false → (decide ((48 :
  Int) ≤ x.fst) = true → True) ∧ (decide ((48 : Int) ≤ x.fst) = true → (decide ((48 : Int) ≤ x.fst) == true) = true ∧ True) ∧ (decide ((48 : Int) ≤ x.fst) = true → (decide ((48 : Int) ≤
  x.fst) == true) = true) ∧ ((bif decide ((48 : Int) ≤ x.fst) then decide (x.fst ≤ (57 : Int)) else false) = true → true = printsD x.fst) ∧ ((bif decide ((48 : Int) ≤ x.fst) then decide
  (x.fst ≤ (57 : Int)) else false) = false → (decide (x.fst ≠ (0 : Int)) = true → True) ∧ (decide (x.fst ≠ (0 : Int)) = true → (decide (x.fst ≠ (0 : Int)) == true) = true ∧ True ∧ (∀ (y : Int
  × Unit), Kd.wf (Kd.int IntKind.i64) y.fst ∧ True → y.fst = idxB (bs { data := #[(32 : UInt8), (39 : UInt8), (40 : UInt8), (41 : UInt8), (43 : UInt8), (44 : UInt8), (45 : UInt8), (46 :
  UInt8), (47 : UInt8), (58 : UInt8), (61 : UInt8), (63 : UInt8)] }) x.fst → decide ((0 : Int) ≤ y.fst) = printsD x.fst) ∧ True) ∧ (decide (x.fst ≠ (0 : Int)) = !true → false = printsD
  x.fst))))
theorem e85 : t85 = Con.vc c_text_prints GL (mkEnv ty [(105, conSem c_strings_IndexByte)] [] [] [0, 2, 3]) {} Tryd.f85.ntmps Tryd.f85.results.toList (bodyOf Tryd.f85) := by kernel_rfl
theorem k85 : t85 := by
  unfold t85
  rintro ⟨c, _⟩ hx hp
  have hc : 0 ≤ c ∧ c ≤ 255 := by
    have h : InR .u8 c := hx.1
    simpa [InR, IntKind.min, IntKind.max, IntKind.signed, IntKind.bits] using h
  try dsimp +instances only [dft_int, dft_sl, dft_str]
  simp only [true_and, and_true, eq_self_iff_true, implies_true, reduceCtorEq, false_implies, true_implies, decide_eq_true_eq, decide_eq_false_iff_not, beq_self_eq_true, Bool.not_eq_true', ne_eq, Decidable.not_not, List.nil_append, List.length_singleton, List.length_cons, List.length_nil, Nat.zero_add, Nat.add_zero, Nat.mul_one, and_self, beq_iff_eq, Bool.not_true, Bool.not_false, Bool.not_eq_false', Bool.cond_false_right, Bool.and_eq_true, imp_self, Bool.not_eq_true, Bool.cond_true_left, Bool.or_eq_true]
  have key : ∀ c : Fin 256, decide (0 ≤ idxB (bs { data := #[32, 39, 40, 41, 43, 44, 45, 46, 47, 58, 61, 63] }) (c.val : Int)) = true → printsD (c.val : Int) = true := by decide +kernel
  have key2 : ∀ c : Fin 256, ((decide (97 ≤ (c.val : Int)) && decide ((c.val : Int) ≤ 122)) = false) → ((decide (65 ≤ (c.val : Int)) && decide ((c.val : Int) ≤ 90)) = false) → ((decide (48 ≤ (c.val : Int)) && decide ((c.val : Int) ≤ 57)) = false) → decide (0 ≤ idxB (bs { data := #[32, 39, 40, 41, 43, 44, 45, 46, 47, 58, 61, 63] }) (c.val : Int)) = printsD (c.val : Int) := by decide +kernel
  have k2 := key2 ⟨c.toNat, by omega⟩
  simp only [Int.toNat_of_nonneg hc.1] at k2
  refine ⟨fun h => by simp [printsD, h], fun h1 => ⟨fun h => by simp [printsD, h], fun h2 => ⟨fun h => by simp [printsD, h], fun h3 => ⟨fun h => ⟨h, fun y _ ey => by rw [ey]; exact k2 h1 h2 h3⟩, fun h => by subst h; decide⟩⟩⟩⟩
theorem h85 : c_text_prints.ok Tryd.prog GL 85 := con_ok (H := {}) (mkEnv_ok (gl := GL) (l := [(105, conSem c_strings_IndexByte)]) (q := []) (d := []) _ tyOk (by kernel_rfl) ⟨h105.call, trivial⟩ trivial trivial) (by kernel_rfl) (by kernel_rfl) (Eq.mp e85 k85)

def t99 : Prop :=
  ∀ (x : Int × Unit), Kd.wf (Kd.int IntKind.u8) x.fst ∧ True → True → (decide ((97 : Int) ≤ x.fst) = true → True) ∧ (decide ((97 : Int) ≤ x.fst) = true → (decide ((97 : Int) ≤ x.fst) == true)
  = true ∧ True) ∧ (decide ((97 : Int) ≤ x.fst) = true → (decide ((97 : Int) ≤ x.fst) == true) = true) ∧ ((bif decide ((97 : Int) ≤ x.fst) then decide (x.fst ≤ (122 : Int)) else false) =
  false → True) ∧ ((bif decide ((97 : Int) ≤ x.fst) then decide (x.fst ≤ (122 : Int)) else false) = false → ((bif decide ((97 : Int) ≤ x.fst) then decide (x.fst ≤ (122 : Int)) else false) ==
  false) = true ∧ True) ∧ ((bif decide ((97 : Int) ≤ x.fst) then decide (x.fst ≤ (122 : Int)) else false) = false → True) ∧ (((bif decide ((97 : Int) ≤ x.fst) then decide (x.fst ≤ (122 :
  Int)) else false) == false && (bif decide ((97 : Int) ≤ x.fst) then decide (x.fst ≤ (122 : Int)) else false) == false) = true → decide ((65 : Int) ≤ x.fst) = true → True) ∧ (((bif decide
  ((97 : Int) ≤ x.fst) then decide (x.fst ≤ (122 : Int)) else false) == false && (bif decide ((97 : Int) ≤ x.fst) then decide (x.fst ≤ (122 : Int)) else false) == false) = true → decide ((65
  : Int) ≤ x.fst) = true → ((bif decide ((97 : Int) ≤ x.fst) then decide (x.fst ≤ (122 : Int)) else false) == false && (bif decide ((97 : Int) ≤ x.fst) then decide (x.fst ≤ (122 : Int)) else
  false) == false && decide ((65 : Int) ≤ x.fst) == true) = true ∧ True) ∧ ((bif decide ((97 : Int) ≤ x.fst) then decide (x.fst ≤ (122 : Int)) else false) = false → ((bif decide ((97 : Int) ≤
  x.fst) then decide (x.fst ≤ (122 : Int)) else false) == false && (bif decide ((97 : Int) ≤ x.fst) then decide (x.fst ≤ (122 : Int)) else false) == false) = true ∧ (decide ((65 : Int) ≤
  x.fst) = true → ((bif decide ((97 : Int) ≤ x.fst) then decide (x.fst ≤ (122 : Int)) else false) == false && (bif decide ((97 : Int) ≤ x.fst) then decide (x.fst ≤ (122 : Int)) else false) ==
  false && decide ((65 : Int) ≤ x.fst) == true) = true) ∧ True) ∧ ((bif decide ((97 : Int) ≤ x.fst) then decide (x.fst ≤ (122 : Int)) else false) = false → ((bif decide ((97 : Int) ≤ x.fst)
  then decide (x.fst ≤ (122 : Int)) else false) == false) = true) ∧ ((bif bif decide ((97 : Int) ≤ x.fst) then decide (x.fst ≤ (122 : Int)) else false then true else bif decide ((65 : Int) ≤
  x.fst) then decide (x.fst ≤ (90 : Int)) else false) = false → True) ∧ ((bif bif decide ((97 : Int) ≤ x.fst) then decide (x.fst ≤ (122 : Int)) else false then true else bif decide ((65 :
  Int) ≤ x.fst) then decide (x.fst ≤ (90 : Int)) else false) = false → ((bif bif decide ((97 : Int) ≤ x.fst) then decide (x.fst ≤ (122 : Int)) else false then true else bif decide ((65 : Int)
  ≤ x.fst) then decide (x.fst ≤ (90 : Int)) else false) == false) = true ∧ True) ∧ ((bif bif decide ((97 : Int) ≤ x.fst) then decide (x.fst ≤ (122 : Int)) else false then true else bif decide
  ((65 : Int) ≤ x.fst) then decide (x.fst ≤ (90 : Int)) else false) = false → True) ∧ (((bif bif decide ((97 : Int) ≤ x.fst) then decide (x.fst ≤ (122 : Int)) else false then true else bif
  decide ((65 : Int) ≤ x.fst) then decide (x.fst ≤ (90 : Int)) else false) == false && (bif bif decide ((97 : Int) ≤ x.fst) then decide (x.fst ≤ (122 : Int)) else false then true else bif
  decide ((65 : Int) ≤ x.fst) then decide (x.fst ≤ (90 : Int)) else false) == false) = true → decide ((48 : Int) ≤ x.fst) = true → True) ∧ (((bif bif decide ((97 : Int) ≤ x.fst) then decide
  (x.fst ≤ (122 : Int)) else false then true else bif decide ((65 : Int) ≤ x.fst) then decide (x.fst ≤ (90 : Int)) else false) == false && (bif bif decide ((97 : Int) ≤ x.fst) then decide
  (x.fst ≤ (122 : Int)) else false then true else bif decide ((65 : Int) ≤ x.fst) then decide (x.fst ≤ (90 : Int)) else false) == false) = true → decide ((48 : Int) ≤ x.fst) = true → ((bif
  bif decide ((97 : Int) ≤ x.fst) then decide (x.fst ≤ (122 : Int)) else false then true else bif decide ((65 : Int) ≤ x.fst) then decide (x.fst ≤ (90 : Int)) else false) == false && (bif bif
  decide ((97 : Int) ≤ x.fst) then decide (x.fst ≤ (122 : Int)) else false then true else bif decide ((65 : Int) ≤ x.fst) then decide (x.fst ≤ (90 : Int)) else false) == false && decide ((48
  : Int) ≤ x.fst) == true) = true ∧ True) ∧ ((bif bif decide ((97 : Int) ≤ x.fst) then decide (x.fst ≤ (122 : Int)) else false then true else bif decide ((65 : Int) ≤ x.fst) then decide
  (x.fst ≤ (90 : Int)) else false) = false → ((bif bif decide ((97 : Int) ≤ x.fst) then decide (x.fst ≤ (122 : Int)) else false then true else bif decide ((65 : Int) ≤ x.fst) then decide
  (x.fst ≤ (90 : Int)) else false) == false && (bif bif decide ((97 : Int) ≤ x.fst) then decide (x.fst ≤ (122 : Int)) else false then true else bif decide ((65 : Int) ≤ x.fst) then decide
  (x.fst ≤ (90 : Int)) else false) == false) = true ∧ (decide ((48 : Int) ≤ x.fst) = true → ((bif bif decide ((97 : Int) ≤ x.fst) then decide (x.fst ≤ (122 : Int)) else false then true else
  bif decide ((65 : Int) ≤ x.fst) then decide (x.fst ≤ (90 : Int)) else false) == false && (bif bif decide ((97 : Int) ≤ x.fst) then decide (x.fst ≤ (122 : Int)) else false then true else bif
  decide ((65 : Int) ≤ x.fst) then decide (x.fst ≤ (90 : Int)) else false) == false && decide ((48 : Int) ≤ x.fst) == true) = true) ∧ True) ∧ ((bif bif decide ((97 : Int) ≤ x.fst) then decide
  (x.fst ≤ (122 : Int)) else false then true else bif decide ((65 : Int) ≤ x.fst) then decide (x.fst ≤ (90 : Int)) else false) = false → ((bif bif decide ((97 : Int) ≤ x.fst) then decide
  (x.fst ≤ (122 : Int)) else false then true else bif decide ((65 : Int) ≤ x.fst) then decide (x.fst ≤ (90 : Int)) else false) == false) = true) ∧ ((bif bif bif decide ((97 : Int) ≤ x.fst)
  then decide (x.fst ≤ (122 : Int)) else false then true else bif decide ((65 : Int) ≤ x.fst) then decide (x.fst ≤ (90 : Int)) else false then true else bif decide ((48 : Int) ≤ x.fst) then
  decide (x.fst ≤ (57 : Int)) else false) = true → true = printsD x.fst) ∧ ((bif bif bif decide ((97 : Int) ≤ x.fst) then decide (x.fst ≤ (122 : Int)) else false then true else bif decide
  ((65 : Int) ≤ x.fst) then decide (x.fst ≤ (90 : Int)) else false then true else bif decide ((48 : Int) ≤ x.fst) then decide (x.fst ≤ (57 : Int)) else false) = false → ∃ (I : Int × Bool ×
  Unit → Unit → Prop), ∃ (μ : Int × Bool × Unit → Unit → Nat), (bs { data := #[(32 : UInt8), (39 : UInt8), (40 : UInt8), (41 : UInt8), (43 : UInt8), (44 : UInt8), (45 : UInt8), (46 : UInt8),
  (47 : UInt8), (58 : UInt8), (61 : UInt8), (63 : UInt8)] } = bs { data := #[(32 : UInt8), (39 : UInt8), (40 : UInt8), (41 : UInt8), (43 : UInt8), (44 : UInt8), (45 : UInt8), (46 : UInt8),
  (47 : UInt8), (58 : UInt8), (61 : UInt8), (63 : UInt8)] } ∧ Value.bool false = Value.bool false ∧ x.fst = x.fst ∧ I ((0 : Int), false, ()) ()) ∧ ∀ (y : Int × Bool × Unit) (z : Unit), Kd.wf
  (Kd.int IntKind.i64) y.fst ∧ Kd.wf Kd.bool y.snd.fst ∧ True → True → I y z → (decide (y.fst < (↑(12 : Nat) : Int)) = true → ((0 : Int) ≤ y.fst ∧ y.fst < (↑(12 : Nat) : Int)) ∧ (decide
  (List.getD (bs { data := #[(32 : UInt8), (39 : UInt8), (40 : UInt8), (41 : UInt8), (43 : UInt8), (44 : UInt8), (45 : UInt8), (46 : UInt8), (47 : UInt8), (58 : UInt8), (61 : UInt8), (63 :
  UInt8)] }) (Int.toNat y.fst) (0 : Int) = x.fst) = true → true = printsD x.fst) ∧ (decide (List.getD (bs { data := #[(32 : UInt8), (39 : UInt8), (40 : UInt8), (41 : UInt8), (43 : UInt8), (44
  : UInt8), (45 : UInt8), (46 : UInt8), (47 : UInt8), (58 : UInt8), (61 : UInt8), (63 : UInt8)] }) (Int.toNat y.fst) (0 : Int) = x.fst) = false → bs { data := #[(32 : UInt8), (39 : UInt8),
  (40 : UInt8), (41 : UInt8), (43 : UInt8), (44 : UInt8), (45 : UInt8), (46 : UInt8), (47 : UInt8), (58 : UInt8), (61 : UInt8), (63 : UInt8)] } = bs { data := #[(32 : UInt8), (39 : UInt8),
  (40 : UInt8), (41 : UInt8), (43 : UInt8), (44 : UInt8), (45 : UInt8), (46 : UInt8), (47 : UInt8), (58 : UInt8), (61 : UInt8), (63 : UInt8)] } ∧ Value.bool false = Value.bool false ∧ x.fst =
  x.fst ∧ I (IntKind.wrap IntKind.i64 (y.fst + (1 : Int)), y.snd.fst, ()) () ∧ μ (IntKind.wrap IntKind.i64 (y.fst + (1 : Int)), y.snd.fst, ()) () < μ y z)) ∧ (decide (y.fst < (↑(12 : Nat) :
  Int)) = false → false = printsD x.fst))
theorem e99 : t99 = Con.vc c_r05_Prints GL (mkEnv ty [] [] [] [0, 2, 3, 4, 26, 30, 37]) {} Tryd.f99.ntmps Tryd.f99.results.toList (bodyOf Tryd.f99) := by kernel_rfl
theorem k99 : t99 := by
  unfold t99
  rintro ⟨c, _⟩ hx hp
  try dsimp +instances only [dft_int, dft_sl, dft_str]
  simp only [true_and, and_true, eq_self_iff_true, implies_true, reduceCtorEq, false_implies, true_implies, decide_eq_true_eq, decide_eq_false_iff_not, beq_self_eq_true, Bool.not_eq_true', ne_eq, Decidable.not_not, List.nil_append, List.length_singleton, List.length_cons, List.length_nil, Nat.zero_add, Nat.add_zero, Nat.mul_one, and_self, beq_iff_eq, Bool.not_true, Bool.not_false, Bool.not_eq_false', Bool.cond_false_right, Bool.and_eq_true, imp_self, Bool.not_eq_true, Bool.cond_true_left, Bool.or_eq_true]
  have hT : bs { data := #[32, 39, 40, 41, 43, 44, 45, 46, 47, 58, 61, 63] } = ([32, 39, 40, 41, 43, 44, 45, 46, 47, 58, 61, 63] : List Int) := by decide
  rw [hT]
  refine ⟨fun h h2 => ⟨h, h2⟩, fun h => ⟨h, fun h2 => ⟨h, h2⟩⟩, fun h h2 => ⟨h, h2⟩, fun h => ⟨h, fun h2 => ⟨h, h2⟩⟩, fun h => ?_, fun h => ?_⟩
  · have : printsD c = true := by
      rw [printsD, decide_eq_true_eq]
      omega
    exact this.symm
  · have hn : ¬ (97 ≤ c ∧ c ≤ 122) ∧ ¬ (65 ≤ c ∧ c ≤ 90) ∧ ¬ (48 ≤ c ∧ c ≤ 57) := by
      simp only [Bool.or_eq_false_iff, Bool.and_eq_false_iff, decide_eq_false_iff_not] at h
      omega
    generalize hTT : ([32, 39, 40, 41, 43, 44, 45, 46, 47, 58, 61, 63] : List Int) = T
    have hTl : T.length = 12 := by rw [← hTT]; rfl
    refine ⟨fun y _ => 0 ≤ y.1 ∧ y.1 ≤ 12 ∧ ∀ j, j < y.1.toNat → T.getD j 0 ≠ c, fun y _ => (12 - y.1).toNat, ⟨by omega, by omega, fun j hj => by simp at hj⟩, ?_⟩
    rintro ⟨i, b, _⟩ z _ ⟨h0, h1, h2⟩
    simp only at h0 h1 h2 ⊢
    have hw : IntKind.wrap .i64 (i + 1) = i + 1 := wrapK _ (by omega) (by omega)
    rw [hw]
    refine ⟨fun hlt => ⟨⟨h0, hlt⟩, fun h3 => ?_, fun h3 => ⟨⟨by omega, by omega, fun j hj => ?_⟩, by omega⟩⟩, fun hge => ?_⟩
    · have hlt2 : i.toNat < T.length := by omega
      have hm : c ∈ T := by
        rw [List.getD_eq_getElem?_getD, List.getElem?_eq_getElem hlt2] at h3
        have h3 : T[i.toNat] = c := h3
        rw [← h3]; exact List.getElem_mem hlt2
      have : printsD c = true := by
        rw [printsD, decide_eq_true_eq, hTT]
        exact .inr (.inr (.inr hm))
      exact this.symm
    · by_cases hji : j < i.toNat
      · exact h2 j hji
      · rw [show j = i.toNat by omega]; exact h3
    · have : printsD c = false := by
        rw [printsD, decide_eq_false_iff_not, hTT]
        rintro (h | h | h | h)
        · exact hn.1 h
        · exact hn.2.1 h
        · exact hn.2.2 h
        · obtain ⟨j, hj, e⟩ := List.getElem_of_mem h
          refine h2 j (by omega) ?_
          rw [List.getD_eq_getElem?_getD, List.getElem?_eq_getElem hj]
          exact e
      exact this.symm
theorem h99 : c_r05_Prints.ok Tryd.prog GL 99 := con_ok (H := {}) (mkEnv_ok (gl := GL) (l := []) (q := []) (d := []) _ tyOk (by kernel_rfl) trivial trivial trivial) (by kernel_rfl) (by kernel_rfl) (Eq.mp e99 k99)

def t60 : Prop :=
  ∀ (x : Int × List Int × Unit), Kd.wf (Kd.int IntKind.i64) x.fst ∧ Kd.wf Kd.str x.snd.fst ∧ True → True → (decide ((4096 : Int) < (↑(List.length x.snd.fst) : Int)) = true → false = mayD
  x.fst x.snd.fst) ∧ (decide ((4096 : Int) < (↑(List.length x.snd.fst) : Int)) = false → (decide (x.fst = (12 : Int)) = true → True ∧ (∀ (y : Int × Unit), Kd.wf (Kd.int IntKind.i64) y.fst ∧
  True → y.fst = (↑(vld x.snd.fst (0 : Nat)) : Int) → decide (y.fst = (↑(List.length x.snd.fst) : Int)) = mayD x.fst x.snd.fst) ∧ True) ∧ (decide (x.fst = (12 : Int)) = false → (decide (x.fst
  = (19 : Int)) = true → ∃ (I : Int × Bool × Unit → Unit → Prop), ∃ (μ : Int × Bool × Unit → Unit → Nat), ((↑(List.length x.snd.fst) : Int) = (↑(List.length x.snd.fst) : Int) ∧ Value.bool
  true = Value.bool true ∧ Value.bool false = Value.bool false ∧ x.fst = x.fst ∧ Value.bool false = Value.bool false ∧ x.fst = x.fst ∧ x.snd.fst = x.snd.fst ∧ I ((0 : Int), false, ()) ()) ∧ ∀
  (y : Int × Bool × Unit) (z : Unit), Kd.wf (Kd.int IntKind.i64) y.fst ∧ Kd.wf Kd.bool y.snd.fst ∧ True → True → I y z → (decide (y.fst < (↑(List.length x.snd.fst) : Int)) = true → ((0 : Int)
  ≤ y.fst ∧ y.fst < (↑(List.length x.snd.fst) : Int)) ∧ True ∧ (∀ (y_1 : Bool × Unit), Kd.wf Kd.bool y_1.fst ∧ True → y_1.fst = printsD (List.getD x.snd.fst (Int.toNat y.fst) (0 : Int)) →
  ((!y_1.fst) = true → false = mayD x.fst x.snd.fst) ∧ ((!y_1.fst) = false → (↑(List.length x.snd.fst) : Int) = (↑(List.length x.snd.fst) : Int) ∧ Value.bool true = Value.bool true ∧
  Value.bool false = Value.bool false ∧ x.fst = x.fst ∧ Value.bool false = Value.bool false ∧ x.fst = x.fst ∧ x.snd.fst = x.snd.fst ∧ I (IntKind.wrap IntKind.i64 (y.fst + (1 : Int)),
  y.snd.fst, ()) () ∧ μ (IntKind.wrap IntKind.i64 (y.fst + (1 : Int)), y.snd.fst, ()) () < μ y z)) ∧ True) ∧ (decide (y.fst < (↑(List.length x.snd.fst) : Int)) = false → true = mayD x.fst
  x.snd.fst)) ∧ (decide (x.fst = (19 : Int)) = false → (decide (x.fst = (22 : Int)) = true → ∃ (I : Int × Bool × Unit → Unit → Prop), ∃ (μ : Int × Bool × Unit → Unit → Nat), ((↑(List.length
  x.snd.fst) : Int) = (↑(List.length x.snd.fst) : Int) ∧ Value.bool true = Value.bool true ∧ Value.bool false = Value.bool false ∧ Value.bool false = Value.bool false ∧ x.fst = x.fst ∧
  Value.bool false = Value.bool false ∧ x.fst = x.fst ∧ x.snd.fst = x.snd.fst ∧ I ((0 : Int), false, ()) ()) ∧ ∀ (y : Int × Bool × Unit) (z : Unit), Kd.wf (Kd.int IntKind.i64) y.fst ∧ Kd.wf
  Kd.bool y.snd.fst ∧ True → True → I y z → (decide (y.fst < (↑(List.length x.snd.fst) : Int)) = true → ((0 : Int) ≤ y.fst ∧ y.fst < (↑(List.length x.snd.fst) : Int)) ∧ (decide ((128 : Int) ≤
  List.getD x.snd.fst (Int.toNat y.fst) (0 : Int)) = true → false = mayD x.fst x.snd.fst) ∧ (decide ((128 : Int) ≤ List.getD x.snd.fst (Int.toNat y.fst) (0 : Int)) = false → (↑(List.length
  x.snd.fst) : Int) = (↑(List.length x.snd.fst) : Int) ∧ Value.bool true = Value.bool true ∧ Value.bool false = Value.bool false ∧ Value.bool false = Value.bool false ∧ x.fst = x.fst ∧
  Value.bool false = Value.bool false ∧ x.fst = x.fst ∧ x.snd.fst = x.snd.fst ∧ I (IntKind.wrap IntKind.i64 (y.fst + (1 : Int)), y.snd.fst, ()) () ∧ μ (IntKind.wrap IntKind.i64 (y.fst + (1 :
  Int)), y.snd.fst, ()) () < μ y z)) ∧ (decide (y.fst < (↑(List.length x.snd.fst) : Int)) = false → true = mayD x.fst x.snd.fst)) ∧ (decide (x.fst = (22 : Int)) = false → false = mayD x.fst
  x.snd.fst))))
theorem e60 : t60 = Con.vc c_text_May GL (mkEnv ty [(84, conSem c_text_Valid), (85, conSem c_text_prints)] [] [] [0, 1, 4, 5, 6, 9, 10, 11, 18, 21, 22, 23, 29, 31, 34, 35, 36, 41]) {} Tryd.f60.ntmps Tryd.f60.results.toList (bodyOf Tryd.f60) := by kernel_rfl
theorem k60 : t60 := by
  unfold t60
  rintro ⟨k, m, _⟩ hx hp
  try dsimp +instances only [dft_int, dft_sl, dft_str]
  simp only [true_and, and_true, eq_self_iff_true, implies_true, reduceCtorEq, false_implies, true_implies, decide_eq_true_eq, decide_eq_false_iff_not, beq_self_eq_true, Bool.not_eq_true', ne_eq, Decidable.not_not, List.nil_append, List.length_singleton, List.length_cons, List.length_nil, Nat.zero_add, Nat.add_zero, Nat.mul_one, and_self, beq_iff_eq, Bool.not_true, Bool.not_false, Bool.not_eq_false', Bool.cond_false_right, Bool.and_eq_true, imp_self, Bool.not_eq_true, Bool.cond_true_left, Bool.or_eq_true]
  refine ⟨fun h => by rw [mayD, if_pos (by omega)], fun hl => ⟨fun h => ?_, fun h12 => ⟨fun h19 => ?_, fun h19 => ⟨fun h22 => ?_, fun h22 => ?_⟩⟩⟩⟩
  · rintro ⟨a, _⟩ _ ea
    simp only at ea ⊢
    rw [mayD, if_neg (by omega), if_pos h, ea]
    exact decide_eq_decide.2 (by omega)
  · have hm : mayD k m = m.all printsD := by rw [mayD, if_neg (by omega), if_neg h12, if_pos h19]
    rw [hm]
    refine ⟨fun y _ => 0 ≤ y.1 ∧ y.1 ≤ m.length ∧ ∀ j, j < y.1.toNat → printsD (m.getD j 0) = true, fun y _ => ((m.length : Int) - y.1).toNat, ⟨by omega, by omega, fun j hj => by simp at hj⟩, ?_⟩
    rintro ⟨i, b, _⟩ z _ ⟨h0, h1, h2⟩
    simp only at h0 h1 h2 ⊢
    have hw : IntKind.wrap .i64 (i + 1) = i + 1 := wrapK _ (by omega) (by omega)
    rw [hw]
    refine ⟨fun hlt => ⟨⟨h0, hlt⟩, ?_⟩, fun hge => (all_get _ _ (fun j hj => h2 j (by omega))).symm⟩
    rintro ⟨a, _⟩ _ ea
    simp only at ea ⊢
    refine ⟨fun h => (all_not _ _ i.toNat (by omega) (by rw [← ea]; exact h)).symm, fun h => ⟨⟨by omega, by omega, fun j hj => ?_⟩, by omega⟩⟩
    by_cases hji : j < i.toNat
    · exact h2 j hji
    · rw [show j = i.toNat by omega, ← ea]; exact h
  · have hm : mayD k m = m.all (fun c => decide (c < 128)) := by rw [mayD, if_neg (by omega), if_neg h12, if_neg h19, if_pos h22]
    rw [hm]
    refine ⟨fun y _ => 0 ≤ y.1 ∧ y.1 ≤ m.length ∧ ∀ j, j < y.1.toNat → m.getD j 0 < 128, fun y _ => ((m.length : Int) - y.1).toNat, ⟨by omega, by omega, fun j hj => by simp at hj⟩, ?_⟩
    rintro ⟨i, b, _⟩ z _ ⟨h0, h1, h2⟩
    simp only at h0 h1 h2 ⊢
    have hw : IntKind.wrap .i64 (i + 1) = i + 1 := wrapK _ (by omega) (by omega)
    rw [hw]
    refine ⟨fun hlt => ⟨⟨h0, hlt⟩, fun h => (all_not _ _ i.toNat (by omega) (by simpa using h)).symm, fun h => ⟨⟨by omega, by omega, fun j hj => ?_⟩, by omega⟩⟩, fun hge => (all_get _ _ (fun j hj => by simpa using h2 j (by omega))).symm⟩
    by_cases hji : j < i.toNat
    · exact h2 j hji
    · rw [show j = i.toNat by omega]; omega
  · rw [mayD, if_neg (by omega), if_neg h12, if_neg h19, if_neg h22]
theorem h60 : c_text_May.ok Tryd.prog GL 60 := con_ok (H := {}) (mkEnv_ok (gl := GL) (l := [(84, conSem c_text_Valid), (85, conSem c_text_prints)]) (q := []) (d := []) _ tyOk (by kernel_rfl) ⟨h84.call, h85.call, trivial⟩ trivial trivial) (by kernel_rfl) (by kernel_rfl) (Eq.mp e60 k60)

def t75 : Prop :=
  ∀ (x : Int × List Int × Unit), Kd.wf (Kd.int IntKind.i64) x.fst ∧ Kd.wf Kd.str x.snd.fst ∧ True → List.length x.snd.fst ≤ (1000000000 : Nat) → (decide ((4096 : Int) < (↑(List.length
  x.snd.fst) : Int)) = false → True) ∧ (decide ((4096 : Int) < (↑(List.length x.snd.fst) : Int)) = false → (decide ((4096 : Int) < (↑(List.length x.snd.fst) : Int)) == false) = true ∧ True) ∧
  (decide ((4096 : Int) < (↑(List.length x.snd.fst) : Int)) = false → True) ∧ ((decide ((4096 : Int) < (↑(List.length x.snd.fst) : Int)) == false && decide ((4096 : Int) < (↑(List.length
  x.snd.fst) : Int)) == false) = true → decide (x.fst ≠ (12 : Int)) = true → True) ∧ ((decide ((4096 : Int) < (↑(List.length x.snd.fst) : Int)) == false && decide ((4096 : Int) <
  (↑(List.length x.snd.fst) : Int)) == false) = true → decide (x.fst ≠ (12 : Int)) = true → (decide ((4096 : Int) < (↑(List.length x.snd.fst) : Int)) == false && decide ((4096 : Int) <
  (↑(List.length x.snd.fst) : Int)) == false && decide (x.fst ≠ (12 : Int)) == true) = true ∧ True) ∧ (decide ((4096 : Int) < (↑(List.length x.snd.fst) : Int)) = false → (decide ((4096 : Int)
  < (↑(List.length x.snd.fst) : Int)) == false && decide ((4096 : Int) < (↑(List.length x.snd.fst) : Int)) == false) = true ∧ (decide (x.fst ≠ (12 : Int)) = true → (decide ((4096 : Int) <
  (↑(List.length x.snd.fst) : Int)) == false && decide ((4096 : Int) < (↑(List.length x.snd.fst) : Int)) == false && decide (x.fst ≠ (12 : Int)) == true) = true) ∧ True) ∧ (decide ((4096 :
  Int) < (↑(List.length x.snd.fst) : Int)) = false → True) ∧ ((decide ((4096 : Int) < (↑(List.length x.snd.fst) : Int)) == false && decide ((4096 : Int) < (↑(List.length x.snd.fst) : Int)) ==
  false) = true → (bif decide (x.fst ≠ (12 : Int)) then decide (x.fst ≠ (19 : Int)) else false) = true → True) ∧ ((decide ((4096 : Int) < (↑(List.length x.snd.fst) : Int)) == false && decide
  ((4096 : Int) < (↑(List.length x.snd.fst) : Int)) == false) = true → (bif decide (x.fst ≠ (12 : Int)) then decide (x.fst ≠ (19 : Int)) else false) = true → (decide ((4096 : Int) <
  (↑(List.length x.snd.fst) : Int)) == false && decide ((4096 : Int) < (↑(List.length x.snd.fst) : Int)) == false && (bif decide (x.fst ≠ (12 : Int)) then decide (x.fst ≠ (19 : Int)) else
  false) == true) = true ∧ True) ∧ (decide ((4096 : Int) < (↑(List.length x.snd.fst) : Int)) = false → (decide ((4096 : Int) < (↑(List.length x.snd.fst) : Int)) == false && decide ((4096 :
  Int) < (↑(List.length x.snd.fst) : Int)) == false) = true ∧ ((bif decide (x.fst ≠ (12 : Int)) then decide (x.fst ≠ (19 : Int)) else false) = true → (decide ((4096 : Int) < (↑(List.length
  x.snd.fst) : Int)) == false && decide ((4096 : Int) < (↑(List.length x.snd.fst) : Int)) == false && (bif decide (x.fst ≠ (12 : Int)) then decide (x.fst ≠ (19 : Int)) else false) == true) =
  true) ∧ True) ∧ (decide ((4096 : Int) < (↑(List.length x.snd.fst) : Int)) = false → (decide ((4096 : Int) < (↑(List.length x.snd.fst) : Int)) == false) = true) ∧ ((bif decide ((4096 : Int)
  < (↑(List.length x.snd.fst) : Int)) then true else bif bif decide (x.fst ≠ (12 : Int)) then decide (x.fst ≠ (19 : Int)) else false then decide (x.fst ≠ (22 : Int)) else false) = true →
  false = mayD x.fst x.snd.fst) ∧ ((bif decide ((4096 : Int) < (↑(List.length x.snd.fst) : Int)) then true else bif bif decide (x.fst ≠ (12 : Int)) then decide (x.fst ≠ (19 : Int)) else false
  then decide (x.fst ≠ (22 : Int)) else false) = false → (decide (x.fst = (12 : Int)) = true → List.length x.snd.fst ≤ (1000000000 : Nat) ∧ (∀ (y : Int × Unit), Kd.wf (Kd.int IntKind.i64)
  y.fst ∧ True → y.fst = (↑(vld x.snd.fst (0 : Nat)) : Int) → decide (y.fst = (↑(List.length x.snd.fst) : Int)) = mayD x.fst x.snd.fst) ∧ True) ∧ (decide (x.fst = (12 : Int)) = false → ∃ (I :
  Int × Bool × Unit → Unit → Prop), ∃ (μ : Int × Bool × Unit → Unit → Nat), (Value.bool false = Value.bool false ∧ Value.bool false = Value.bool false ∧ x.fst = x.fst ∧ x.snd.fst = x.snd.fst
  ∧ I ((0 : Int), false, ()) ()) ∧ ∀ (y : Int × Bool × Unit) (z : Unit), Kd.wf (Kd.int IntKind.i64) y.fst ∧ Kd.wf Kd.bool y.snd.fst ∧ True → True → I y z → (decide (y.fst < (↑(List.length
  x.snd.fst) : Int)) = true → (decide (x.fst = (19 : Int)) = true → True) ∧ (decide (x.fst = (19 : Int)) = true → True) ∧ (decide (x.fst = (19 : Int)) = true → (decide (x.fst = (19 : Int)) ==
  true) = true ∧ (decide (x.fst = (19 : Int)) == true) = true ∧ ((0 : Int) ≤ y.fst ∧ y.fst < (↑(List.length x.snd.fst) : Int)) ∧ True) ∧ (decide (x.fst = (19 : Int)) = true → (decide (x.fst =
  (19 : Int)) == true) = true ∧ True ∧ (∀ (y_1 : Bool × Unit), Kd.wf Kd.bool y_1.fst ∧ True → y_1.fst = printsD (List.getD x.snd.fst (Int.toNat y.fst) (0 : Int)) → ((!y_1.fst) = false → True)
  ∧ ((!y_1.fst) = false → True) ∧ ((!y_1.fst) = false → ((!y_1.fst) == false) = true ∧ ((!y_1.fst) == false) = true ∧ ((0 : Int) ≤ y.fst ∧ y.fst < (↑(List.length x.snd.fst) : Int)) ∧ True) ∧
  ((!y_1.fst) = false → ((!y_1.fst) == false) = true ∧ True) ∧ ((!y_1.fst) = false → ((!y_1.fst) == false) = true) ∧ ((bif !y_1.fst then true else decide ((127 : Int) < List.getD x.snd.fst
  (Int.toNat y.fst) (0 : Int))) = true → false = mayD x.fst x.snd.fst) ∧ ((bif !y_1.fst then true else decide ((127 : Int) < List.getD x.snd.fst (Int.toNat y.fst) (0 : Int))) = false →
  Value.bool false = Value.bool false ∧ Value.bool false = Value.bool false ∧ x.fst = x.fst ∧ x.snd.fst = x.snd.fst ∧ I (IntKind.wrap IntKind.i64 (y.fst + (1 : Int)), y.snd.fst, ()) () ∧ μ
  (IntKind.wrap IntKind.i64 (y.fst + (1 : Int)), y.snd.fst, ()) () < μ y z)) ∧ True) ∧ (decide (x.fst = (19 : Int)) = !true → ((0 : Int) ≤ y.fst ∧ y.fst < (↑(List.length x.snd.fst) : Int)) ∧
  (decide ((127 : Int) < List.getD x.snd.fst (Int.toNat y.fst) (0 : Int)) = true → false = mayD x.fst x.snd.fst) ∧ (decide ((127 : Int) < List.getD x.snd.fst (Int.toNat y.fst) (0 : Int)) =
  false → Value.bool false = Value.bool false ∧ Value.bool false = Value.bool false ∧ x.fst = x.fst ∧ x.snd.fst = x.snd.fst ∧ I (IntKind.wrap IntKind.i64 (y.fst + (1 : Int)), y.snd.fst, ())
  () ∧ μ (IntKind.wrap IntKind.i64 (y.fst + (1 : Int)), y.snd.fst, ()) () < μ y z))) ∧ (decide (y.fst < (↑(List.length x.snd.fst) : Int)) = false → true = mayD x.fst x.snd.fst)))
theorem e75 : t75 = Con.vc c_r05_May GL (mkEnv ty [(98, conSem c_r05_Valid), (99, conSem c_r05_Prints)] [] [] [0, 1, 4, 5, 20, 22, 31, 48]) {} Tryd.f75.ntmps Tryd.f75.results.toList (bodyOf Tryd.f75) := by kernel_rfl
theorem k75 : t75 := by
  unfold t75
  rintro ⟨k, m, _⟩ hx hp
  have hp : m.length ≤ 1000000000 := hp
  try dsimp +instances only [dft_int, dft_sl, dft_str]
  simp only [true_and, and_true, eq_self_iff_true, implies_true, reduceCtorEq, false_implies, true_implies, decide_eq_true_eq, decide_eq_false_iff_not, beq_self_eq_true, Bool.not_eq_true', ne_eq, Decidable.not_not, List.nil_append, List.length_singleton, List.length_cons, List.length_nil, Nat.zero_add, Nat.add_zero, Nat.mul_one, and_self, beq_iff_eq, Bool.not_true, Bool.not_false, Bool.not_eq_false', Bool.cond_false_right, Bool.and_eq_true, imp_self, Bool.not_eq_true, Bool.cond_true_left, Bool.or_eq_true]
  refine ⟨fun h h2 => ⟨h, h2⟩, fun h => ⟨h, fun h2 => ⟨h, h2⟩⟩, fun h h2 => ⟨h, h2⟩, fun h => ⟨h, fun h2 => ⟨h, h2⟩⟩, fun h => ?_, fun h => ⟨fun h12 => ⟨hp, ?_⟩, fun h12 => ?_⟩⟩
  · symm
    unfold mayD
    by_cases h4 : 4096 < m.length
    · rw [if_pos h4]
    · rw [if_neg h4, if_neg (by omega), if_neg (by omega), if_neg (by omega)]
  · simp only [Bool.or_eq_false_iff, decide_eq_false_iff_not] at h
    rintro ⟨a, _⟩ _ ea
    simp only at ea ⊢
    rw [mayD, if_neg (by omega), if_pos h12, ea]
    exact decide_eq_decide.2 (by omega)
  · simp only [Bool.or_eq_false_iff, Bool.and_eq_false_iff, decide_eq_false_iff_not, Decidable.not_not] at h
    have hm : ∀ i : Int, 0 ≤ i → i ≤ m.length → True := fun _ _ _ => trivial
    by_cases h19 : k = 19
    · have hm : mayD k m = m.all printsD := by rw [mayD, if_neg (by omega), if_neg h12, if_pos h19]
      rw [hm]
      refine ⟨fun y _ => 0 ≤ y.1 ∧ y.1 ≤ m.length ∧ ∀ j, j < y.1.toNat → printsD (m.getD j 0) = true, fun y _ => ((m.length : Int) - y.1).toNat, ⟨by omega, by omega, fun j hj => by simp at hj⟩, ?_⟩
      rintro ⟨i, b, _⟩ z _ ⟨h0, h1, h2⟩
      simp only at h0 h1 h2 ⊢
      have hw : IntKind.wrap .i64 (i + 1) = i + 1 := wrapK _ (by omega) (by omega)
      rw [hw]
      refine ⟨fun hlt => ⟨fun e => ⟨e, e, h0, hlt⟩, fun e => ⟨e, ?_⟩, fun e => absurd h19 e⟩, fun hge => (all_get _ _ (fun j hj => h2 j (by omega))).symm⟩
      rintro ⟨a, _⟩ _ ea
      simp only at ea ⊢
      refine ⟨fun h => ⟨h, h, h0, hlt⟩, fun h => ?_, fun h => ⟨⟨by omega, by omega, fun j hj => ?_⟩, by omega⟩⟩
      · refine (all_not _ _ i.toNat (by omega) ?_).symm
        rcases h with h | h
        · rw [← ea]; exact h
        · cases hpr : printsD (m.getD i.toNat 0) with
          | false => rfl
          | true => have := prints_low hpr; omega
      · by_cases hji : j < i.toNat
        · exact h2 j hji
        · rw [show j = i.toNat by omega, ← ea]
          have := (Bool.or_eq_false_iff.1 h).1
          simpa using this
    · have h22 : k = 22 := by omega
      have hm : mayD k m = m.all (fun c => decide (c < 128)) := by rw [mayD, if_neg (by omega), if_neg h12, if_neg h19, if_pos h22]
      rw [hm]
      refine ⟨fun y _ => 0 ≤ y.1 ∧ y.1 ≤ m.length ∧ ∀ j, j < y.1.toNat → m.getD j 0 < 128, fun y _ => ((m.length : Int) - y.1).toNat, ⟨by omega, by omega, fun j hj => by simp at hj⟩, ?_⟩
      rintro ⟨i, b, _⟩ z _ ⟨h0, h1, h2⟩
      simp only at h0 h1 h2 ⊢
      have hw : IntKind.wrap .i64 (i + 1) = i + 1 := wrapK _ (by omega) (by omega)
      rw [hw]
      refine ⟨fun hlt => ⟨fun e => absurd e h19, fun e => absurd e h19, fun _ => ⟨⟨h0, hlt⟩, fun h => (all_not _ _ i.toNat (by omega) (by show decide (m.getD i.toNat 0 < 128) = false; rw [decide_eq_false_iff_not]; omega)).symm, fun h => ⟨⟨by omega, by omega, fun j hj => ?_⟩, by omega⟩⟩⟩, fun hge => (all_get _ _ (fun j hj => by simpa using h2 j (by omega))).symm⟩
      by_cases hji : j < i.toNat
      · exact h2 j hji
      · rw [show j = i.toNat by omega]; omega
theorem h75 : c_r05_May.ok Tryd.prog GL 75 := con_ok (H := {}) (mkEnv_ok (gl := GL) (l := [(98, conSem c_r05_Valid), (99, conSem c_r05_Prints)]) (q := []) (d := []) _ tyOk (by kernel_rfl) ⟨h98.call, h99.call, trivial⟩ trivial trivial) (by kernel_rfl) (by kernel_rfl) (Eq.mp e75 k75)

def t47 : Prop :=
  ∀ (x : List Int × Unit), Kd.wf Kd.str x.fst ∧ True → True → True ∧ (∀ (y : Bool × Unit), Kd.wf Kd.bool y.fst ∧ True → y.fst = mayD (19 : Int) x.fst → (y.fst = true → (19 : Int) = (kindD
  x.fst).fst ∧ (0 : Int) = (kindD x.fst).snd) ∧ (y.fst = false → True ∧ (∀ (y : Bool × Unit), Kd.wf Kd.bool y.fst ∧ True → y.fst = mayD (12 : Int) x.fst → (y.fst = true → (12 : Int) = (kindD
  x.fst).fst ∧ (0 : Int) = (kindD x.fst).snd) ∧ (y.fst = false → (0 : Int) = (kindD x.fst).fst ∧ (50 : Int) = (kindD x.fst).snd)) ∧ True)) ∧ True
theorem e47 : t47 = Con.vc c_text_Kind GL (mkEnv ty [(60, conSem c_text_May)] [] [] [0, 2, 3, 4, 7]) {} Tryd.f47.ntmps Tryd.f47.results.toList (bodyOf Tryd.f47) := by kernel_rfl
theorem k47 : t47 := by
  unfold t47
  rintro ⟨l, _⟩ hx hp
  try dsimp +instances only [dft_int, dft_sl, dft_str]
  simp only [true_and, and_true, eq_self_iff_true, implies_true, reduceCtorEq, false_implies, true_implies, decide_eq_true_eq, decide_eq_false_iff_not, beq_self_eq_true, Bool.not_eq_true', ne_eq, Decidable.not_not, List.nil_append, List.length_singleton, List.length_cons, List.length_nil, Nat.zero_add, Nat.add_zero, Nat.mul_one, and_self, beq_iff_eq, Bool.not_true, Bool.not_false, Bool.not_eq_false', Bool.cond_false_right, Bool.and_eq_true, imp_self, Bool.not_eq_true, Bool.cond_true_left, Bool.or_eq_true]
  rintro ⟨a, _⟩ _ ea
  simp only at ea ⊢
  refine ⟨fun h => by rw [kindD, if_pos (by rw [← ea]; exact h)]; exact ⟨rfl, rfl⟩, fun h => ?_⟩
  rintro ⟨b, _⟩ _ eb
  simp only at eb ⊢
  refine ⟨fun h2 => ?_, fun h2 => ?_⟩
  · rw [kindD, if_neg (by rw [← ea, h]; decide), if_pos (by rw [← eb]; exact h2)]; exact ⟨rfl, rfl⟩
  · rw [kindD, if_neg (by rw [← ea, h]; decide), if_neg (by rw [← eb, h2]; decide)]; exact ⟨rfl, rfl⟩
theorem h47 : c_text_Kind.ok Tryd.prog GL 47 := con_ok (H := {}) (mkEnv_ok (gl := GL) (l := [(60, conSem c_text_May)]) (q := []) (d := []) _ tyOk (by kernel_rfl) ⟨h60.call, trivial⟩ trivial trivial) (by kernel_rfl) (by kernel_rfl) (Eq.mp e47 k47)

noncomputable def i104 : CallSem → CallSem := vcSeq (mkEnv ty [(105, conSem c_strings_IndexByte)] [] [] [0, 1, 3, 4, 8, 14, 31]) {joins := [5]} Tryd.f104.ntmps Tryd.f104.results.toList (bodyOf Tryd.f104)
theorem i104_ok : SeqOk Tryd.prog GL 104 i104 := seq_ok {joins := [5]} (mkEnv_ok (gl := GL) (l := [(105, conSem c_strings_IndexByte)]) (q := []) (d := []) _ tyOk (by kernel_rfl) ⟨h105.call, trivial⟩ trivial trivial) (by kernel_rfl) (by kernel_rfl)

noncomputable def i81 : CallSem := vcFn (mkEnv ty [] [] [] [0, 1, 2]) {} Tryd.f81.ntmps Tryd.f81.results.toList (bodyOf Tryd.f81)
theorem i81_ok : CallOk Tryd.prog GL 81 i81 := inl_ok {} (mkEnv_ok (gl := GL) (l := []) (q := []) (d := []) _ tyOk (by kernel_rfl) trivial trivial trivial) (by kernel_rfl) (by kernel_rfl)

def t57 : Prop :=
  ∀ (x : List Int × Unit), Kd.wf Kd.str x.fst ∧ True → List.length x.fst ≤ (100000000 : Nat) → (1 : Nat) ≤ (65536 : Nat) ∧ List.length [SV.dat Kd.str x.fst] ≤ (65536 : Nat) ∧ ∃ (I : Int ×
  Unit → Unit × (List Int × Unit) × List Int × Unit → Prop), ∃ (μ : Int × Unit → Unit × (List Int × Unit) × List Int × Unit → Nat), (bs { data := #[] } = bs { data := #[] } ∧ x.fst = x.fst ∧
  I ((0 : Int), ()) ((), (x.fst, ()), [], ())) ∧ ∀ (y : Int × Unit) (z : Unit × (List Int × Unit) × List Int × Unit), Kd.wf (Kd.int IntKind.i64) y.fst ∧ True → True ∧ (Kd.wf Kd.str
  z.snd.fst.fst ∧ True) ∧ Kd.wf (Kd.sl (Kd.int IntKind.u8)) z.snd.snd.fst ∧ True → I y z → (decide (y.fst < (↑(List.length z.snd.fst.fst) : Int)) = true → ((0 : Int) ≤ y.fst ∧ y.fst ≤
  (↑(List.length z.snd.fst.fst) : Int)) ∧ True ∧ (∀ (y_1 : Int × Unit), Kd.wf (Kd.int IntKind.i64) y_1.fst ∧ True → y_1.fst = idxB (List.drop (Int.toNat y.fst) z.snd.fst.fst) (32 : Int) → ∃
  (J : Int × Unit → Unit × Unit × Unit → Prop), ((decide (y_1.fst < (0 : Int)) = true → Value.bool true = Value.bool true ∧ y.fst = y.fst ∧ z.snd.fst.fst = z.snd.fst.fst ∧ z.snd.snd.fst =
  z.snd.snd.fst ∧ bs { data := #[] } = bs { data := #[] } ∧ x.fst = x.fst ∧ J (IntKind.wrap IntKind.i64 ((↑(List.length z.snd.fst.fst) : Int) - y.fst), ()) ((), (), ())) ∧ (decide (y_1.fst <
  (0 : Int)) = false → Value.bool true = Value.bool true ∧ y.fst = y.fst ∧ z.snd.fst.fst = z.snd.fst.fst ∧ z.snd.snd.fst = z.snd.snd.fst ∧ bs { data := #[] } = bs { data := #[] } ∧ x.fst =
  x.fst ∧ J (y_1.fst, ()) ((), (), ()))) ∧ ∀ (u : Int × Unit) (z_1 : Unit × Unit × Unit), Kd.wf (Kd.int IntKind.i64) u.fst ∧ True → True ∧ True ∧ True → J u z_1 → (decide ((0 : Int) < u.fst)
  = true → True) ∧ (decide ((0 : Int) < u.fst) = true → True) ∧ (decide ((0 : Int) < u.fst) = true → True) ∧ (decide ((0 : Int) < u.fst) = true → True) ∧ (decide ((0 : Int) < u.fst) = true →
  True) ∧ (decide ((0 : Int) < u.fst) = true → (decide ((0 : Int) < u.fst) == true) = true ∧ (decide ((0 : Int) < u.fst) == true) = true ∧ True) ∧ (decide ((0 : Int) < u.fst) = true → (decide
  ((0 : Int) < u.fst) == true) = true ∧ (decide ((0 : Int) < u.fst) == true) = true ∧ (decide ((0 : Int) < u.fst) == true) = true ∧ ((0 : Int) ≤ y.fst ∧ y.fst ≤ IntKind.wrap IntKind.i64
  (y.fst + u.fst) ∧ IntKind.wrap IntKind.i64 (y.fst + u.fst) ≤ (↑(List.length z.snd.fst.fst) : Int)) ∧ True) ∧ (decide ((0 : Int) < u.fst) = true → (decide ((0 : Int) < u.fst) == true) = true
  ∧ (decide ((0 : Int) < u.fst) == true) = true ∧ ∃ (J : Unit → Unit × (List Int × Unit) × List Int × Unit → Prop), ((decide ((0 : Int) < (↑(List.length z.snd.snd.fst) : Int)) = true → (0 :
  Nat) < (1 : Nat) ∧ (List.length z.snd.snd.fst + (1 : Nat)) * (1 : Nat) ≤ (140737488355328 : Nat) ∧ List.length z.snd.snd.fst + (1 : Nat) ≤ (9223372036854775807 : Nat) ∧ List.drop (Int.toNat
  y.fst) (List.take (Int.toNat (IntKind.wrap IntKind.i64 (y.fst + u.fst))) z.snd.fst.fst) = List.drop (Int.toNat y.fst) (List.take (Int.toNat (IntKind.wrap IntKind.i64 (y.fst + u.fst)))
  z.snd.fst.fst) ∧ List.drop (Int.toNat y.fst) (List.take (Int.toNat (IntKind.wrap IntKind.i64 (y.fst + u.fst))) z.snd.fst.fst) = List.drop (Int.toNat y.fst) (List.take (Int.toNat
  (IntKind.wrap IntKind.i64 (y.fst + u.fst))) z.snd.fst.fst) ∧ bs { data := #[] } = bs { data := #[] } ∧ x.fst = x.fst ∧ List.drop (Int.toNat y.fst) (List.take (Int.toNat (IntKind.wrap
  IntKind.i64 (y.fst + u.fst))) z.snd.fst.fst) = List.drop (Int.toNat y.fst) (List.take (Int.toNat (IntKind.wrap IntKind.i64 (y.fst + u.fst))) z.snd.fst.fst) ∧ Value.bool true = Value.bool
  true ∧ decide ((0 : Int) < u.fst) = decide ((0 : Int) < u.fst) ∧ u.fst = u.fst ∧ u.fst = u.fst ∧ Value.bool true = Value.bool true ∧ y.fst = y.fst ∧ bs { data := #[] } = bs { data := #[] }
  ∧ x.fst = x.fst ∧ J () ((), (z.snd.fst.fst, ()), z.snd.snd.fst ++ [(32 : Int)], ())) ∧ (decide ((0 : Int) < (↑(List.length z.snd.snd.fst) : Int)) = false → List.drop (Int.toNat y.fst)
  (List.take (Int.toNat (IntKind.wrap IntKind.i64 (y.fst + u.fst))) z.snd.fst.fst) = List.drop (Int.toNat y.fst) (List.take (Int.toNat (IntKind.wrap IntKind.i64 (y.fst + u.fst)))
  z.snd.fst.fst) ∧ List.drop (Int.toNat y.fst) (List.take (Int.toNat (IntKind.wrap IntKind.i64 (y.fst + u.fst))) z.snd.fst.fst) = List.drop (Int.toNat y.fst) (List.take (Int.toNat
  (IntKind.wrap IntKind.i64 (y.fst + u.fst))) z.snd.fst.fst) ∧ bs { data := #[] } = bs { data := #[] } ∧ x.fst = x.fst ∧ List.drop (Int.toNat y.fst) (List.take (Int.toNat (IntKind.wrap
  IntKind.i64 (y.fst + u.fst))) z.snd.fst.fst) = List.drop (Int.toNat y.fst) (List.take (Int.toNat (IntKind.wrap IntKind.i64 (y.fst + u.fst))) z.snd.fst.fst) ∧ Value.bool true = Value.bool
  true ∧ decide ((0 : Int) < u.fst) = decide ((0 : Int) < u.fst) ∧ u.fst = u.fst ∧ u.fst = u.fst ∧ Value.bool true = Value.bool true ∧ y.fst = y.fst ∧ bs { data := #[] } = bs { data := #[] }
  ∧ x.fst = x.fst ∧ J () ((), (z.snd.fst.fst, ()), z.snd.snd.fst, ()))) ∧ ∀ (u_1 : Unit) (z_2 : Unit × (List Int × Unit) × List Int × Unit), True → True ∧ (Kd.wf Kd.str z_2.snd.fst.fst ∧
  True) ∧ Kd.wf (Kd.sl (Kd.int IntKind.u8)) z_2.snd.snd.fst ∧ True → J u_1 z_2 → ∃ (I_1 : Int × Unit → Unit × (List Int × Unit) × List Int × Unit → Prop), ∃ (μ_1 : Int × Unit → Unit × (List
  Int × Unit) × List Int × Unit → Nat), ((↑(List.length (List.drop (Int.toNat y.fst) (List.take (Int.toNat (IntKind.wrap IntKind.i64 (y.fst + u.fst))) z.snd.fst.fst))) : Int) = (↑(List.length
  (List.drop (Int.toNat y.fst) (List.take (Int.toNat (IntKind.wrap IntKind.i64 (y.fst + u.fst))) z.snd.fst.fst))) : Int) ∧ List.drop (Int.toNat y.fst) (List.take (Int.toNat (IntKind.wrap
  IntKind.i64 (y.fst + u.fst))) z.snd.fst.fst) = List.drop (Int.toNat y.fst) (List.take (Int.toNat (IntKind.wrap IntKind.i64 (y.fst + u.fst))) z.snd.fst.fst) ∧ List.drop (Int.toNat y.fst)
  (List.take (Int.toNat (IntKind.wrap IntKind.i64 (y.fst + u.fst))) z.snd.fst.fst) = List.drop (Int.toNat y.fst) (List.take (Int.toNat (IntKind.wrap IntKind.i64 (y.fst + u.fst)))
  z.snd.fst.fst) ∧ bs { data := #[] } = bs { data := #[] } ∧ x.fst = x.fst ∧ List.drop (Int.toNat y.fst) (List.take (Int.toNat (IntKind.wrap IntKind.i64 (y.fst + u.fst))) z.snd.fst.fst) =
  List.drop (Int.toNat y.fst) (List.take (Int.toNat (IntKind.wrap IntKind.i64 (y.fst + u.fst))) z.snd.fst.fst) ∧ Value.bool true = Value.bool true ∧ decide ((0 : Int) < u.fst) = decide ((0 :
  Int) < u.fst) ∧ u.fst = u.fst ∧ u.fst = u.fst ∧ Value.bool true = Value.bool true ∧ y.fst = y.fst ∧ bs { data := #[] } = bs { data := #[] } ∧ x.fst = x.fst ∧ I_1 ((0 : Int), ()) ((),
  (z_2.snd.fst.fst, ()), z_2.snd.snd.fst, ())) ∧ ∀ (y_2 : Int × Unit) (z_3 : Unit × (List Int × Unit) × List Int × Unit), Kd.wf (Kd.int IntKind.i64) y_2.fst ∧ True → True ∧ (Kd.wf Kd.str
  z_3.snd.fst.fst ∧ True) ∧ Kd.wf (Kd.sl (Kd.int IntKind.u8)) z_3.snd.snd.fst ∧ True → I_1 y_2 z_3 → (decide (y_2.fst < (↑(List.length (List.drop (Int.toNat y.fst) (List.take (Int.toNat
  (IntKind.wrap IntKind.i64 (y.fst + u.fst))) z.snd.fst.fst))) : Int)) = true → ((((0 : Int) ≤ y_2.fst ∧ y_2.fst < (↑(List.length (List.drop (Int.toNat y.fst) (List.take (Int.toNat
  (IntKind.wrap IntKind.i64 (y.fst + u.fst))) z.snd.fst.fst))) : Int)) ∧ (True ∧ (∀ (y_3 : Int × Unit), Kd.wf (Kd.int IntKind.u8) y_3.fst ∧ True → y_3.fst = smallD (List.getD (List.drop
  (Int.toNat y.fst) (List.take (Int.toNat (IntKind.wrap IntKind.i64 (y.fst + u.fst))) z.snd.fst.fst)) (Int.toNat y_2.fst) (0 : Int)) → (((0 : Nat) < (1 : Nat) ∧ (List.length z_3.snd.snd.fst +
  List.length [y_3.fst]) * (1 : Nat) ≤ (140737488355328 : Nat) ∧ List.length z_3.snd.snd.fst + List.length [y_3.fst] ≤ (9223372036854775807 : Nat) ∧ ((↑(List.length (List.drop (Int.toNat
  y.fst) (List.take (Int.toNat (IntKind.wrap IntKind.i64 (y.fst + u.fst))) z.snd.fst.fst))) : Int) = (↑(List.length (List.drop (Int.toNat y.fst) (List.take (Int.toNat (IntKind.wrap
  IntKind.i64 (y.fst + u.fst))) z.snd.fst.fst))) : Int) ∧ List.drop (Int.toNat y.fst) (List.take (Int.toNat (IntKind.wrap IntKind.i64 (y.fst + u.fst))) z.snd.fst.fst) = List.drop (Int.toNat
  y.fst) (List.take (Int.toNat (IntKind.wrap IntKind.i64 (y.fst + u.fst))) z.snd.fst.fst) ∧ List.drop (Int.toNat y.fst) (List.take (Int.toNat (IntKind.wrap IntKind.i64 (y.fst + u.fst)))
  z.snd.fst.fst) = List.drop (Int.toNat y.fst) (List.take (Int.toNat (IntKind.wrap IntKind.i64 (y.fst + u.fst))) z.snd.fst.fst) ∧ bs { data := #[] } = bs { data := #[] } ∧ x.fst = x.fst ∧
  List.drop (Int.toNat y.fst) (List.take (Int.toNat (IntKind.wrap IntKind.i64 (y.fst + u.fst))) z.snd.fst.fst) = List.drop (Int.toNat y.fst) (List.take (Int.toNat (IntKind.wrap IntKind.i64
  (y.fst + u.fst))) z.snd.fst.fst) ∧ Value.bool true = Value.bool true ∧ decide ((0 : Int) < u.fst) = decide ((0 : Int) < u.fst) ∧ u.fst = u.fst ∧ u.fst = u.fst ∧ Value.bool true = Value.bool
  true ∧ y.fst = y.fst ∧ bs { data := #[] } = bs { data := #[] } ∧ x.fst = x.fst ∧ I_1 (IntKind.wrap IntKind.i64 (y_2.fst + (1 : Int)), ()) ((), (z_3.snd.fst.fst, ()), z_3.snd.snd.fst ++
  [y_3.fst], ()) ∧ μ_1 (IntKind.wrap IntKind.i64 (y_2.fst + (1 : Int)), ()) ((), (z_3.snd.fst.fst, ()), z_3.snd.snd.fst ++ [y_3.fst], ()) < μ_1 y_2 z_3) ∧ True) ∧ True) ∧ True) ∧ True) ∧
  True) ∧ True) ∧ (((0 : Int) ≤ y_2.fst ∧ y_2.fst < (↑(List.length (List.drop (Int.toNat y.fst) (List.take (Int.toNat (IntKind.wrap IntKind.i64 (y.fst + u.fst))) z.snd.fst.fst))) : Int)) ∧
  ((True ∧ (∀ (y_3 : Int × Unit), Kd.wf (Kd.int IntKind.u8) y_3.fst ∧ True → y_3.fst = smallD (List.getD (List.drop (Int.toNat y.fst) (List.take (Int.toNat (IntKind.wrap IntKind.i64 (y.fst +
  u.fst))) z.snd.fst.fst)) (Int.toNat y_2.fst) (0 : Int)) → (((0 : Nat) < (1 : Nat) ∧ (List.length z_3.snd.snd.fst + List.length [y_3.fst]) * (1 : Nat) ≤ (140737488355328 : Nat) ∧ List.length
  z_3.snd.snd.fst + List.length [y_3.fst] ≤ (9223372036854775807 : Nat) ∧ ((↑(List.length (List.drop (Int.toNat y.fst) (List.take (Int.toNat (IntKind.wrap IntKind.i64 (y.fst + u.fst)))
  z.snd.fst.fst))) : Int) = (↑(List.length (List.drop (Int.toNat y.fst) (List.take (Int.toNat (IntKind.wrap IntKind.i64 (y.fst + u.fst))) z.snd.fst.fst))) : Int) ∧ List.drop (Int.toNat y.fst)
  (List.take (Int.toNat (IntKind.wrap IntKind.i64 (y.fst + u.fst))) z.snd.fst.fst) = List.drop (Int.toNat y.fst) (List.take (Int.toNat (IntKind.wrap IntKind.i64 (y.fst + u.fst)))
  z.snd.fst.fst) ∧ List.drop (Int.toNat y.fst) (List.take (Int.toNat (IntKind.wrap IntKind.i64 (y.fst + u.fst))) z.snd.fst.fst) = List.drop (Int.toNat y.fst) (List.take (Int.toNat
  (IntKind.wrap IntKind.i64 (y.fst + u.fst))) z.snd.fst.fst) ∧ bs { data := #[] } = bs { data := #[] } ∧ x.fst = x.fst ∧ List.drop (Int.toNat y.fst) (List.take (Int.toNat (IntKind.wrap
  IntKind.i64 (y.fst + u.fst))) z.snd.fst.fst) = List.drop (Int.toNat y.fst) (List.take (Int.toNat (IntKind.wrap IntKind.i64 (y.fst + u.fst))) z.snd.fst.fst) ∧ Value.bool true = Value.bool
  true ∧ decide ((0 : Int) < u.fst) = decide ((0 : Int) < u.fst) ∧ u.fst = u.fst ∧ u.fst = u.fst ∧ Value.bool true = Value.bool true ∧ y.fst = y.fst ∧ bs { data := #[] } = bs { data := #[] }
  ∧ x.fst = x.fst ∧ I_1 (IntKind.wrap IntKind.i64 (y_2.fst + (1 : Int)), ()) ((), (z_3.snd.fst.fst, ()), z_3.snd.snd.fst ++ [y_3.fst], ()) ∧ μ_1 (IntKind.wrap IntKind.i64 (y_2.fst + (1 :
  Int)), ()) ((), (z_3.snd.fst.fst, ()), z_3.snd.snd.fst ++ [y_3.fst], ()) < μ_1 y_2 z_3) ∧ True) ∧ True) ∧ True) ∧ True) ∧ True) ∧ (True ∧ (∀ (y_3 : Int × Unit), Kd.wf (Kd.int IntKind.u8)
  y_3.fst ∧ True → y_3.fst = smallD (List.getD (List.drop (Int.toNat y.fst) (List.take (Int.toNat (IntKind.wrap IntKind.i64 (y.fst + u.fst))) z.snd.fst.fst)) (Int.toNat y_2.fst) (0 : Int)) →
  ((((0 : Nat) < (1 : Nat) ∧ (List.length z_3.snd.snd.fst + List.length [y_3.fst]) * (1 : Nat) ≤ (140737488355328 : Nat) ∧ List.length z_3.snd.snd.fst + List.length [y_3.fst] ≤
  (9223372036854775807 : Nat) ∧ ((↑(List.length (List.drop (Int.toNat y.fst) (List.take (Int.toNat (IntKind.wrap IntKind.i64 (y.fst + u.fst))) z.snd.fst.fst))) : Int) = (↑(List.length
  (List.drop (Int.toNat y.fst) (List.take (Int.toNat (IntKind.wrap IntKind.i64 (y.fst + u.fst))) z.snd.fst.fst))) : Int) ∧ List.drop (Int.toNat y.fst) (List.take (Int.toNat (IntKind.wrap
  IntKind.i64 (y.fst + u.fst))) z.snd.fst.fst) = List.drop (Int.toNat y.fst) (List.take (Int.toNat (IntKind.wrap IntKind.i64 (y.fst + u.fst))) z.snd.fst.fst) ∧ List.drop (Int.toNat y.fst)
  (List.take (Int.toNat (IntKind.wrap IntKind.i64 (y.fst + u.fst))) z.snd.fst.fst) = List.drop (Int.toNat y.fst) (List.take (Int.toNat (IntKind.wrap IntKind.i64 (y.fst + u.fst)))
  z.snd.fst.fst) ∧ bs { data := #[] } = bs { data := #[] } ∧ x.fst = x.fst ∧ List.drop (Int.toNat y.fst) (List.take (Int.toNat (IntKind.wrap IntKind.i64 (y.fst + u.fst))) z.snd.fst.fst) =
  List.drop (Int.toNat y.fst) (List.take (Int.toNat (IntKind.wrap IntKind.i64 (y.fst + u.fst))) z.snd.fst.fst) ∧ Value.bool true = Value.bool true ∧ decide ((0 : Int) < u.fst) = decide ((0 :
  Int) < u.fst) ∧ u.fst = u.fst ∧ u.fst = u.fst ∧ Value.bool true = Value.bool true ∧ y.fst = y.fst ∧ bs { data := #[] } = bs { data := #[] } ∧ x.fst = x.fst ∧ I_1 (IntKind.wrap IntKind.i64
  (y_2.fst + (1 : Int)), ()) ((), (z_3.snd.fst.fst, ()), z_3.snd.snd.fst ++ [y_3.fst], ()) ∧ μ_1 (IntKind.wrap IntKind.i64 (y_2.fst + (1 : Int)), ()) ((), (z_3.snd.fst.fst, ()),
  z_3.snd.snd.fst ++ [y_3.fst], ()) < μ_1 y_2 z_3) ∧ True) ∧ True) ∧ True) ∧ ((((0 : Nat) < (1 : Nat) ∧ (List.length z_3.snd.snd.fst + List.length [y_3.fst]) * (1 : Nat) ≤ (140737488355328 :
  Nat) ∧ List.length z_3.snd.snd.fst + List.length [y_3.fst] ≤ (9223372036854775807 : Nat) ∧ ((↑(List.length (List.drop (Int.toNat y.fst) (List.take (Int.toNat (IntKind.wrap IntKind.i64
  (y.fst + u.fst))) z.snd.fst.fst))) : Int) = (↑(List.length (List.drop (Int.toNat y.fst) (List.take (Int.toNat (IntKind.wrap IntKind.i64 (y.fst + u.fst))) z.snd.fst.fst))) : Int) ∧ List.drop
  (Int.toNat y.fst) (List.take (Int.toNat (IntKind.wrap IntKind.i64 (y.fst + u.fst))) z.snd.fst.fst) = List.drop (Int.toNat y.fst) (List.take (Int.toNat (IntKind.wrap IntKind.i64 (y.fst +
  u.fst))) z.snd.fst.fst) ∧ List.drop (Int.toNat y.fst) (List.take (Int.toNat (IntKind.wrap IntKind.i64 (y.fst + u.fst))) z.snd.fst.fst) = List.drop (Int.toNat y.fst) (List.take (Int.toNat
  (IntKind.wrap IntKind.i64 (y.fst + u.fst))) z.snd.fst.fst) ∧ bs { data := #[] } = bs { data := #[] } ∧ x.fst = x.fst ∧ List.drop (Int.toNat y.fst) (List.take (Int.toNat (IntKind.wrap
  IntKind.i64 (y.fst + u.fst))) z.snd.fst.fst) = List.drop (Int.toNat y.fst) (List.take (Int.toNat (IntKind.wrap IntKind.i64 (y.fst + u.fst))) z.snd.fst.fst) ∧ Value.bool true = Value.bool
  true ∧ decide ((0 : Int) < u.fst) = decide ((0 : Int) < u.fst) ∧ u.fst = u.fst ∧ u.fst = u.fst ∧ Value.bool true = Value.bool true ∧ y.fst = y.fst ∧ bs { data := #[] } = bs { data := #[] }
  ∧ x.fst = x.fst ∧ I_1 (IntKind.wrap IntKind.i64 (y_2.fst + (1 : Int)), ()) ((), (z_3.snd.fst.fst, ()), z_3.snd.snd.fst ++ [y_3.fst], ()) ∧ μ_1 (IntKind.wrap IntKind.i64 (y_2.fst + (1 :
  Int)), ()) ((), (z_3.snd.fst.fst, ()), z_3.snd.snd.fst ++ [y_3.fst], ()) < μ_1 y_2 z_3) ∧ True) ∧ True) ∧ True) ∧ True) ∧ True) ∧ True) ∧ True) ∧ (decide (y_2.fst < (↑(List.length
  (List.drop (Int.toNat y.fst) (List.take (Int.toNat (IntKind.wrap IntKind.i64 (y.fst + u.fst))) z.snd.fst.fst))) : Int)) = false → bs { data := #[] } = bs { data := #[] } ∧ x.fst = x.fst ∧ I
  (IntKind.wrap IntKind.i64 (y.fst + IntKind.wrap IntKind.i64 (u.fst + (1 : Int))), ()) ((), (z_3.snd.fst.fst, ()), z_3.snd.snd.fst, ()) ∧ μ (IntKind.wrap IntKind.i64 (y.fst + IntKind.wrap
  IntKind.i64 (u.fst + (1 : Int))), ()) ((), (z_3.snd.fst.fst, ()), z_3.snd.snd.fst, ()) < μ y z)) ∧ (decide ((0 : Int) < u.fst) = !true → bs { data := #[] } = bs { data := #[] } ∧ x.fst =
  x.fst ∧ I (IntKind.wrap IntKind.i64 (y.fst + IntKind.wrap IntKind.i64 (u.fst + (1 : Int))), ()) ((), (z.snd.fst.fst, ()), z.snd.snd.fst, ()) ∧ μ (IntKind.wrap IntKind.i64 (y.fst +
  IntKind.wrap IntKind.i64 (u.fst + (1 : Int))), ()) ((), (z.snd.fst.fst, ()), z.snd.snd.fst, ()) < μ y z)) ∧ True) ∧ (decide (y.fst < (↑(List.length z.snd.fst.fst) : Int)) = false →
  z.snd.snd.fst = foldD x.fst)
theorem e57 : t57 = Con.vc c_text_Fold GL (mkEnv ty [(81, i81), (82, conSem c_text_small)] [(104, i104)] [] [0, 2, 3, 4, 5, 7, 8, 11, 16, 17, 18]) {joins := [6]} Tryd.f57.ntmps Tryd.f57.results.toList (bodyOf Tryd.f57) := by kernel_rfl
theorem k57 : t57 := by
  unfold t57
  rintro ⟨l, _⟩ hx hp
  have hw : Kd.wf Kd.str l := hx.1
  have hp : l.length ≤ 100000000 := hp
  try dsimp +instances only [dft_int, dft_sl, dft_str]
  simp only [true_and, and_true, eq_self_iff_true, implies_true, reduceCtorEq, false_implies, true_implies, decide_eq_true_eq, decide_eq_false_iff_not, beq_self_eq_true, Bool.not_eq_true', ne_eq, Decidable.not_not, List.nil_append, List.length_singleton, List.length_cons, List.length_nil, Nat.zero_add, Nat.add_zero, Nat.mul_one, and_self, beq_iff_eq, Bool.not_true, Bool.not_false, Bool.not_eq_false', Bool.cond_false_right, Bool.and_eq_true, imp_self, Bool.not_eq_true, Bool.cond_true_left, Bool.or_eq_true]
  refine ⟨by decide, by decide, fun y z => 0 ≤ y.1 ∧ y.1 ≤ l.length + 1 ∧ z.2.1.1 = l ∧ (z.2.2.1.length : Int) ≤ 2 * y.1 ∧ foldD l = joinF z.2.2.1 (wordsA [] (l.drop y.1.toNat)), fun y _ => ((l.length : Int) + 1 - y.1).toNat, ⟨by decide, by omega, rfl, by simp, rfl⟩, ?_⟩
  rintro ⟨i, _⟩ ⟨_, ⟨m, _⟩, b, _⟩ _ _ ⟨h0, h1, h2, h3, h4⟩
  simp only at h0 h1 h2 h3 h4 ⊢
  subst h2
  refine ⟨fun hlt => ⟨⟨h0, by omega⟩, ?_⟩, fun hge => ?_⟩
  rotate_left
  · rw [h4, List.drop_of_length_le (by omega), words_end]; rfl
  rintro ⟨k, _⟩ _ ek
  simp only at ek ⊢
  have hdl : (m.drop i.toNat).length = m.length - i.toNat := by simp
  refine ⟨fun u _ => idxB (m.drop i.toNat) 32 < 0 ∧ u.1 = (m.drop i.toNat).length ∨ 0 ≤ idxB (m.drop i.toNat) 32 ∧ u.1 = idxB (m.drop i.toNat) 32, ⟨fun h => .inl ⟨by omega, ?_⟩, fun h => .inr ⟨by omega, ek⟩⟩, ?_⟩
  · rw [hdl]
    have : IntKind.wrap .i64 ((m.length : Int) - i) = m.length - i := wrapK _ (by omega) (by omega)
    rw [this]; omega
  rintro ⟨n, _⟩ _ _ hJ
  obtain ⟨n0, n1, n2⟩ := idx_split hJ
  clear hJ
  simp only at n0 n1 n2 ⊢
  rw [hdl] at n1
  have e1 : IntKind.wrap .i64 (n + 1) = n + 1 := wrapK _ (by omega) (by omega)
  have e2 : IntKind.wrap .i64 (i + (n + 1)) = i + (n + 1) := wrapK _ (by omega) (by omega)
  have e3 : IntKind.wrap .i64 (i + n) = i + n := wrapK _ (by omega) (by omega)
  rw [e1, e2, e3]
  have e4 : (i + (n + 1)).toNat = i.toNat + (n.toNat + 1) := by omega
  have e5 : (i + n).toNat = i.toNat + n.toNat := by omega
  rw [List.drop_drop, ← e4] at n2
  refine ⟨fun h => ⟨h, h, h, h0, by omega, by omega⟩, fun h => ⟨h, h, ?_⟩, fun h => ⟨⟨by omega, by omega, trivial, by omega, ?_⟩, by omega⟩⟩
  rotate_left
  · rw [h4, n2, if_pos (by omega), List.nil_append]
  rw [if_neg (by omega)] at n2
  have ew : (m.take (i + n).toNat).drop i.toNat = (m.drop i.toNat).take n.toNat := by rw [e5, List.drop_take, Nat.add_sub_cancel_left]
  rw [ew]
  have hwl : ((m.drop i.toNat).take n.toNat).length = n.toNat := by rw [List.length_take, hdl]; omega
  generalize (m.drop i.toNat).take n.toNat = w at n2 hwl ⊢
  refine ⟨fun _ z => z.2.1.1 = m ∧ z.2.2.1 = b ++ (if b = [] then [] else [32]), ⟨fun hb => ⟨by decide, by omega, by omega, rfl, ?_⟩, fun hb => ⟨rfl, ?_⟩⟩, ?_⟩
  · rw [if_neg (fun e => by rw [e] at hb; simp at hb)]
  · have : b = [] := List.eq_nil_of_length_eq_zero (by omega)
    subst this; rfl
  rintro _ ⟨_, ⟨m2, _⟩, c, _⟩ _ ⟨em, ec⟩
  simp only at em ec ⊢
  subst em
  have hcl : (c.length : Int) ≤ 2 * i + 1 := by
    rw [ec, List.length_append]
    split <;> simp <;> omega
  refine ⟨fun y z => 0 ≤ y.1 ∧ y.1 ≤ w.length ∧ z.2.1.1 = m2 ∧ z.2.2.1 = c ++ (w.take y.1.toNat).map smallD, fun y _ => ((w.length : Int) - y.1).toNat, ⟨by decide, by omega, rfl, by simp⟩, ?_⟩
  rintro ⟨j, _⟩ ⟨_, ⟨m3, _⟩, d, _⟩ _ _ ⟨j0, j1, em3, ed⟩
  simp only at j0 j1 em3 ed ⊢
  subst em3
  have hdl : (d.length : Int) = c.length + j := by
    rw [ed, List.length_append, List.length_map, List.length_take]
    omega
  refine ⟨fun hlt => ⟨⟨j0, hlt⟩, ?_⟩, fun hge => ⟨⟨by omega, by omega, rfl, by omega, ?_⟩, by omega⟩⟩
  · rintro ⟨s, _⟩ _ es
    simp only at es ⊢
    have e6 : IntKind.wrap .i64 (j + 1) = j + 1 := wrapK _ (by omega) (by omega)
    rw [e6]
    refine ⟨by decide, by omega, by omega, ⟨by omega, by omega, trivial, ?_⟩, by omega⟩
    rw [show (j + 1).toNat = j.toNat + 1 by omega, take_snoc w j.toNat (by omega), List.map_append, ed, es, List.append_assoc]
    rfl
  · rw [h4, n2, List.singleton_append, joinF, ed, ec, List.take_of_length_le (by omega)]
theorem h57 : c_text_Fold.ok Tryd.prog GL 57 := con_ok (H := {joins := [6]}) (mkEnv_ok (gl := GL) (l := [(81, i81), (82, conSem c_text_small)]) (q := [(104, i104)]) (d := []) _ tyOk (by kernel_rfl) ⟨i81_ok, h82.call, trivial⟩ ⟨i104_ok, trivial⟩ trivial) (by kernel_rfl) (by kernel_rfl) (Eq.mp e57 k57)

def t32 : Prop :=
  ∀ (x : List Int × List Int × Unit), Kd.wf Kd.str x.fst ∧ Kd.wf Kd.str x.snd.fst ∧ True → List.length x.fst ≤ (100000000 : Nat) ∧ List.length x.snd.fst ≤ (100000000 : Nat) → List.length
  x.fst ≤ (100000000 : Nat) ∧ (∀ (y : List Int × Unit), Kd.wf Kd.str y.fst ∧ True → y.fst = foldD x.fst → List.length x.snd.fst ≤ (100000000 : Nat) ∧ (∀ (y_1 : List Int × Unit), Kd.wf Kd.str
  y_1.fst ∧ True → y_1.fst = foldD x.snd.fst → decide (y.fst = y_1.fst) = decide (foldD x.fst = foldD x.snd.fst)) ∧ True) ∧ True
theorem e32 : t32 = Con.vc c_text_Same GL (mkEnv ty [(57, conSem c_text_Fold)] [] [] [0, 1, 4]) {} Tryd.f32.ntmps Tryd.f32.results.toList (bodyOf Tryd.f32) := by kernel_rfl
theorem k32 : t32 := by
  unfold t32
  rintro ⟨l, m, _⟩ hx ⟨h1, h2⟩
  try dsimp +instances only [dft_int, dft_sl, dft_str]
  simp only [true_and, and_true, eq_self_iff_true, implies_true, reduceCtorEq, false_implies, true_implies, decide_eq_true_eq, decide_eq_false_iff_not, beq_self_eq_true, Bool.not_eq_true', ne_eq, Decidable.not_not, List.nil_append, List.length_singleton, List.length_cons, List.length_nil, Nat.zero_add, Nat.add_zero, Nat.mul_one, and_self, beq_iff_eq, Bool.not_true, Bool.not_false, Bool.not_eq_false', Bool.cond_false_right, Bool.and_eq_true, imp_self, Bool.not_eq_true, Bool.cond_true_left, Bool.or_eq_true]
  refine ⟨h1, ?_⟩
  rintro ⟨a, _⟩ _ ea
  refine ⟨h2, ?_⟩
  rintro ⟨b, _⟩ _ eb
  simp only at ea eb ⊢
  subst ea eb
  rfl
theorem h32 : c_text_Same.ok Tryd.prog GL 32 := con_ok (H := {}) (mkEnv_ok (gl := GL) (l := [(57, conSem c_text_Fold)]) (q := []) (d := []) _ tyOk (by kernel_rfl) ⟨h57.call, trivial⟩ trivial trivial) (by kernel_rfl) (by kernel_rfl) (Eq.mp e32 k32)

end Go.Proofs.YtcaekpbmmbfeiaaDoor
end
