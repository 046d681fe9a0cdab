/- Texts of a verified walk, led together: NampA, NampW. -/
import Derived.Test.YtcaekpbmmbfeiaaDoorZW02
import Derived.Test.YtcaekpbmmbfeiaaDoorZV08
set_option linter.unusedVariables false
set_option linter.unusedSimpArgs false
section
/- Contracts. -/
namespace Go.Proofs.YtcaekpbmmbfeiaaDoor
open Go Go.Vc Go.Pl Go.Proofs
def c_name_plain : Con := { args := [.dat .str], res := [.dat .str, .dat .bool], pre := fun x => x.1.length ≤ 1000000000, post := fun x y => (y.1, y.2.1) = PlainD x.1 }
def c_name_typeOf : Con := { args := [.dat .str], res := [.dat I64], pre := fun _ => True, post := fun x y => y.1 = typK x.1 }
def c_name_Parse : Con := { args := [.dat .str], res := [.own 56 AT, .dat I64], pre := fun x => x.1.length ≤ 10000000, post := fun x y => parN x.1 y.1 y.2.1 = true }
def c_r12_Label : Con := { args := [.dat I64], res := [.dat .str], pre := fun _ => True, post := fun x y => y.1 = labelK x.1 }
def c_r12_MayAttr : Con := { args := [.dat AT], res := [.dat .bool], pre := fun x => x.1.2.length ≤ 100000000, post := fun x y => y.1 = mayA x.1 }
def c_r12_May : Con := { args := [.dat (.sl AT)], res := [.dat .bool], pre := fun x => x.1.length ≤ 1000000000 ∧ ∀ a ∈ x.1, a.2.length ≤ 100000000, post := fun x y => y.1 = mayN x.1 }
def c_r12_Text : Con := { args := [.dat (.sl AT)], res := [.dat .str, .dat I64], pre := fun x => x.1.length ≤ 1000000000 ∧ ∀ a ∈ x.1, a.2.length ≤ 100000000, post := fun x y => (y.1, y.2.1) = TextN x.1 }
def c_r12_Parts : Con := { args := [.dat .str], res := [.own 9 .str], pre := fun x => x.1.length ≤ 10000000, post := fun x y => y.1 = partsE x.1 }
def c_r12_Parse : Con := { args := [.dat .str], res := [.own 56 AT, .dat I64], pre := fun x => x.1.length ≤ 10000000, post := fun x y => parN x.1 y.1 y.2.1 = true }

end Go.Proofs.YtcaekpbmmbfeiaaDoor
end
section
/- Walks. -/
namespace Go.Proofs.YtcaekpbmmbfeiaaDoor
open Go Go.Vc Go.Pl Go.Proofs
set_option linter.unusedVariables false
set_option linter.unusedSimpArgs false
theorem adft_eq3 : Kd.dft (Kd.pair (Kd.int IntKind.i64) Kd.str) = adft := rfl
noncomputable def i41 : CallSem → CallSem := vcSeq (mkEnv ty [] [] [] [0, 1, 3, 4, 8, 13, 14, 18, 26]) {} Tryd.f41.ntmps Tryd.f41.results.toList (bodyOf Tryd.f41)
theorem i41_ok : SeqOk Tryd.prog GL 41 i41 := seq_ok {} (mkEnv_ok (gl := GL) (l := []) (q := []) (d := []) _ tyOk (by kernel_rfl) trivial trivial trivial) (by kernel_rfl) (by kernel_rfl)

noncomputable def i21 : CallSem := vcFn (mkEnv ty [] [] [] [0, 1, 2]) {} Tryd.f21.ntmps Tryd.f21.results.toList (bodyOf Tryd.f21)
theorem i21_ok : CallOk Tryd.prog GL 21 i21 := inl_ok {} (mkEnv_ok (gl := GL) (l := []) (q := []) (d := []) _ tyOk (by kernel_rfl) trivial trivial trivial) (by kernel_rfl) (by kernel_rfl)

def t37 : Prop :=
  ∀ (x : List Int × Unit), Kd.wf Kd.str x.fst ∧ True → List.length x.fst ≤ (1000000000 : Nat) → ∃ (I : Int × Bool × List Int × Unit → List Int × Unit → Prop), ∃ (μ : Int × Bool × List Int ×
  Unit → List Int × Unit → Nat), (x.fst = x.fst ∧ I ((0 : Int), false, bs { data := #[] }, ()) ([], ())) ∧ ∀ (y : Int × Bool × List Int × Unit) (z : List Int × Unit), Kd.wf (Kd.int
  IntKind.i64) y.fst ∧ Kd.wf Kd.bool y.snd.fst ∧ Kd.wf Kd.str y.snd.snd.fst ∧ True → Kd.wf (Kd.sl (Kd.int IntKind.u8)) z.fst ∧ True → I y z → (decide (y.fst < (↑(List.length x.fst) : Int)) =
  true → ((0 : Int) ≤ y.fst ∧ y.fst < (↑(List.length x.fst) : Int)) ∧ (decide (List.getD x.fst (Int.toNat y.fst) (0 : Int) = (92 : Int)) = true → (decide (IntKind.wrap IntKind.i64 (y.fst + (1
  : Int)) = (↑(List.length x.fst) : Int)) = false → True) ∧ (decide (IntKind.wrap IntKind.i64 (y.fst + (1 : Int)) = (↑(List.length x.fst) : Int)) = false → True) ∧ (decide (IntKind.wrap
  IntKind.i64 (y.fst + (1 : Int)) = (↑(List.length x.fst) : Int)) = false → (decide (IntKind.wrap IntKind.i64 (y.fst + (1 : Int)) = (↑(List.length x.fst) : Int)) == false) = true ∧ (decide
  (IntKind.wrap IntKind.i64 (y.fst + (1 : Int)) = (↑(List.length x.fst) : Int)) == false) = true ∧ ((0 : Int) ≤ IntKind.wrap IntKind.i64 (y.fst + (1 : Int)) ∧ IntKind.wrap IntKind.i64 (y.fst
  + (1 : Int)) < (↑(List.length x.fst) : Int)) ∧ True) ∧ (decide (IntKind.wrap IntKind.i64 (y.fst + (1 : Int)) = (↑(List.length x.fst) : Int)) = false → (decide (IntKind.wrap IntKind.i64
  (y.fst + (1 : Int)) = (↑(List.length x.fst) : Int)) == false) = true ∧ True) ∧ (decide (IntKind.wrap IntKind.i64 (y.fst + (1 : Int)) = (↑(List.length x.fst) : Int)) = false → True) ∧
  ((decide (IntKind.wrap IntKind.i64 (y.fst + (1 : Int)) = (↑(List.length x.fst) : Int)) == false && decide (IntKind.wrap IntKind.i64 (y.fst + (1 : Int)) = (↑(List.length x.fst) : Int)) ==
  false) = true → decide (List.getD x.fst (Int.toNat (IntKind.wrap IntKind.i64 (y.fst + (1 : Int)))) (0 : Int) ≠ (92 : Int)) = true → True) ∧ ((decide (IntKind.wrap IntKind.i64 (y.fst + (1 :
  Int)) = (↑(List.length x.fst) : Int)) == false && decide (IntKind.wrap IntKind.i64 (y.fst + (1 : Int)) = (↑(List.length x.fst) : Int)) == false) = true → decide (List.getD x.fst (Int.toNat
  (IntKind.wrap IntKind.i64 (y.fst + (1 : Int)))) (0 : Int) ≠ (92 : Int)) = true → True) ∧ ((decide (IntKind.wrap IntKind.i64 (y.fst + (1 : Int)) = (↑(List.length x.fst) : Int)) == false &&
  decide (IntKind.wrap IntKind.i64 (y.fst + (1 : Int)) = (↑(List.length x.fst) : Int)) == false) = true → decide (List.getD x.fst (Int.toNat (IntKind.wrap IntKind.i64 (y.fst + (1 : Int)))) (0
  : Int) ≠ (92 : Int)) = true → (decide (IntKind.wrap IntKind.i64 (y.fst + (1 : Int)) = (↑(List.length x.fst) : Int)) == false && decide (IntKind.wrap IntKind.i64 (y.fst + (1 : Int)) =
  (↑(List.length x.fst) : Int)) == false && decide (List.getD x.fst (Int.toNat (IntKind.wrap IntKind.i64 (y.fst + (1 : Int)))) (0 : Int) ≠ (92 : Int)) == true) = true ∧ (decide (IntKind.wrap
  IntKind.i64 (y.fst + (1 : Int)) = (↑(List.length x.fst) : Int)) == false && decide (IntKind.wrap IntKind.i64 (y.fst + (1 : Int)) = (↑(List.length x.fst) : Int)) == false && decide
  (List.getD x.fst (Int.toNat (IntKind.wrap IntKind.i64 (y.fst + (1 : Int)))) (0 : Int) ≠ (92 : Int)) == true) = true ∧ ((0 : Int) ≤ IntKind.wrap IntKind.i64 (y.fst + (1 : Int)) ∧
  IntKind.wrap IntKind.i64 (y.fst + (1 : Int)) < (↑(List.length x.fst) : Int)) ∧ True) ∧ ((decide (IntKind.wrap IntKind.i64 (y.fst + (1 : Int)) = (↑(List.length x.fst) : Int)) == false &&
  decide (IntKind.wrap IntKind.i64 (y.fst + (1 : Int)) = (↑(List.length x.fst) : Int)) == false) = true → decide (List.getD x.fst (Int.toNat (IntKind.wrap IntKind.i64 (y.fst + (1 : Int)))) (0
  : Int) ≠ (92 : Int)) = true → (decide (IntKind.wrap IntKind.i64 (y.fst + (1 : Int)) = (↑(List.length x.fst) : Int)) == false && decide (IntKind.wrap IntKind.i64 (y.fst + (1 : Int)) =
  (↑(List.length x.fst) : Int)) == false && decide (List.getD x.fst (Int.toNat (IntKind.wrap IntKind.i64 (y.fst + (1 : Int)))) (0 : Int) ≠ (92 : Int)) == true) = true ∧ True) ∧ (decide
  (IntKind.wrap IntKind.i64 (y.fst + (1 : Int)) = (↑(List.length x.fst) : Int)) = false → (decide (IntKind.wrap IntKind.i64 (y.fst + (1 : Int)) = (↑(List.length x.fst) : Int)) == false &&
  decide (IntKind.wrap IntKind.i64 (y.fst + (1 : Int)) = (↑(List.length x.fst) : Int)) == false) = true ∧ (decide (List.getD x.fst (Int.toNat (IntKind.wrap IntKind.i64 (y.fst + (1 : Int))))
  (0 : Int) ≠ (92 : Int)) = true → (decide (IntKind.wrap IntKind.i64 (y.fst + (1 : Int)) = (↑(List.length x.fst) : Int)) == false && decide (IntKind.wrap IntKind.i64 (y.fst + (1 : Int)) =
  (↑(List.length x.fst) : Int)) == false && decide (List.getD x.fst (Int.toNat (IntKind.wrap IntKind.i64 (y.fst + (1 : Int)))) (0 : Int) ≠ (92 : Int)) == true) = true) ∧ True) ∧ (decide
  (IntKind.wrap IntKind.i64 (y.fst + (1 : Int)) = (↑(List.length x.fst) : Int)) = false → (decide (IntKind.wrap IntKind.i64 (y.fst + (1 : Int)) = (↑(List.length x.fst) : Int)) == false) =
  true) ∧ ((bif decide (IntKind.wrap IntKind.i64 (y.fst + (1 : Int)) = (↑(List.length x.fst) : Int)) then true else bif decide (List.getD x.fst (Int.toNat (IntKind.wrap IntKind.i64 (y.fst +
  (1 : Int)))) (0 : Int) ≠ (92 : Int)) then decide (List.getD x.fst (Int.toNat (IntKind.wrap IntKind.i64 (y.fst + (1 : Int)))) (0 : Int) ≠ (44 : Int)) else false) = true → (bs { data := #[]
  }, false) = PlainD x.fst) ∧ ((bif decide (IntKind.wrap IntKind.i64 (y.fst + (1 : Int)) = (↑(List.length x.fst) : Int)) then true else bif decide (List.getD x.fst (Int.toNat (IntKind.wrap
  IntKind.i64 (y.fst + (1 : Int)))) (0 : Int) ≠ (92 : Int)) then decide (List.getD x.fst (Int.toNat (IntKind.wrap IntKind.i64 (y.fst + (1 : Int)))) (0 : Int) ≠ (44 : Int)) else false) = false
  → ((0 : Int) ≤ IntKind.wrap IntKind.i64 (y.fst + (1 : Int)) ∧ IntKind.wrap IntKind.i64 (y.fst + (1 : Int)) < (↑(List.length x.fst) : Int)) ∧ (0 : Nat) < (1 : Nat) ∧ (List.length z.fst +
  List.length [List.getD x.fst (Int.toNat (IntKind.wrap IntKind.i64 (y.fst + (1 : Int)))) (0 : Int)]) * (1 : Nat) ≤ (140737488355328 : Nat) ∧ List.length z.fst + List.length [List.getD x.fst
  (Int.toNat (IntKind.wrap IntKind.i64 (y.fst + (1 : Int)))) (0 : Int)] ≤ (9223372036854775807 : Nat) ∧ x.fst = x.fst ∧ I (IntKind.wrap IntKind.i64 (IntKind.wrap IntKind.i64 (y.fst + (1 :
  Int)) + (1 : Int)), y.snd.fst, y.snd.snd.fst, ()) (z.fst ++ [List.getD x.fst (Int.toNat (IntKind.wrap IntKind.i64 (y.fst + (1 : Int)))) (0 : Int)], ()) ∧ μ (IntKind.wrap IntKind.i64
  (IntKind.wrap IntKind.i64 (y.fst + (1 : Int)) + (1 : Int)), y.snd.fst, y.snd.snd.fst, ()) (z.fst ++ [List.getD x.fst (Int.toNat (IntKind.wrap IntKind.i64 (y.fst + (1 : Int)))) (0 : Int)],
  ()) < μ y z)) ∧ (decide (List.getD x.fst (Int.toNat y.fst) (0 : Int) = (92 : Int)) = false → ((0 : Int) ≤ y.fst ∧ y.fst < (↑(List.length x.fst) : Int)) ∧ (0 : Nat) < (1 : Nat) ∧
  (List.length z.fst + List.length [List.getD x.fst (Int.toNat y.fst) (0 : Int)]) * (1 : Nat) ≤ (140737488355328 : Nat) ∧ List.length z.fst + List.length [List.getD x.fst (Int.toNat y.fst) (0
  : Int)] ≤ (9223372036854775807 : Nat) ∧ x.fst = x.fst ∧ I (IntKind.wrap IntKind.i64 (y.fst + (1 : Int)), y.snd.fst, y.snd.snd.fst, ()) (z.fst ++ [List.getD x.fst (Int.toNat y.fst) (0 :
  Int)], ()) ∧ μ (IntKind.wrap IntKind.i64 (y.fst + (1 : Int)), y.snd.fst, y.snd.snd.fst, ()) (z.fst ++ [List.getD x.fst (Int.toNat y.fst) (0 : Int)], ()) < μ y z)) ∧ (decide (y.fst <
  (↑(List.length x.fst) : Int)) = false → (z.fst, true) = PlainD x.fst)
theorem e37 : t37 = Con.vc c_name_plain GL (mkEnv ty [] [] [] [0, 2, 3, 4, 5, 9, 15, 33]) {} Tryd.f37.ntmps Tryd.f37.results.toList (bodyOf Tryd.f37) := by kernel_rfl
theorem k37 : t37 := by
  unfold t37
  rintro ⟨s, _⟩ hx hp
  have hp : s.length ≤ 1000000000 := hp
  try dsimp +instances only [dft_int, dft_sl, dft_str]
  simp only [true_and, and_true, eq_self_iff_true, implies_true, reduceCtorEq, false_implies, true_implies, decide_eq_true_eq, decide_eq_false_iff_not, beq_self_eq_true, Bool.not_eq_true', ne_eq, Decidable.not_not, List.nil_append, List.length_singleton, List.length_cons, List.length_nil, Nat.zero_add, Nat.add_zero, Nat.mul_one, and_self, beq_iff_eq, Bool.not_true, Bool.not_false, Bool.not_eq_false', Bool.cond_false_right, Bool.and_eq_true, imp_self, Bool.not_eq_true, Bool.cond_true_left, Bool.or_eq_true]
  rw [bs_nil]
  refine ⟨fun y z => 0 ≤ y.1 ∧ y.1 ≤ s.length ∧ (z.1 : List Int).length ≤ y.1 ∧ plainO s = (plainO (s.drop y.1.toNat)).map (z.1 ++ ·), fun y _ => ((s.length : Int) - y.1).toNat, ⟨Int.le_refl 0, by simp only; omega, by simp, by simp⟩, ?_⟩
  rintro ⟨i, q, t, _⟩ ⟨b, _⟩ _ _ ⟨i0, i1, hb, e⟩
  simp only at i0 i1 hb e ⊢
  refine ⟨fun hlt => ⟨⟨i0, hlt⟩, fun hc => ?_, fun hc => ?_⟩, fun hge => ?_⟩
  · rw [wrapK (i + 1) (by omega) (by omega)]
    rw [drop_cons s i.toNat (by omega), hc] at e
    refine ⟨fun h => ⟨h, h, by omega, by omega⟩, fun h h2 => ⟨⟨h, h2⟩, ⟨h, h2⟩, by omega, by omega⟩, fun h h2 => ⟨h, h2⟩, fun h => ⟨h, fun h2 => ⟨h, h2⟩⟩, fun h => ?_, fun h => ?_⟩
    · rw [plainD_none]
      rw [e]
      by_cases hl : i + 1 = s.length
      · rw [List.drop_of_length_le (by omega)]; rfl
      · have h := h.resolve_left hl
        rw [drop_cons s (i.toNat + 1) (by omega), show i.toNat + 1 = (i + 1).toNat by omega, plainO, if_pos rfl, if_neg (fun hd => hd.elim h.1 h.2)]
        rfl
    · simp only [Bool.or_eq_false_iff, decide_eq_false_iff_not, Bool.and_eq_false_iff, Decidable.not_not] at h
      rw [wrapK (i + 1 + 1) (by omega) (by omega)]
      refine ⟨⟨by omega, by omega⟩, by decide, by omega, by omega, ⟨by omega, by omega, by rw [List.length_append, List.length_singleton]; omega, ?_⟩, by omega⟩
      rw [drop_cons s (i.toNat + 1) (by omega), show i.toNat + 1 = (i + 1).toNat by omega, plainO, if_pos rfl, if_pos h.2] at e
      rw [e, show (i + 1).toNat + 1 = (i + 1 + 1).toNat by omega]
      cases plainO (s.drop (i + 1 + 1).toNat) <;> simp
  · rw [wrapK (i + 1) (by omega) (by omega)]
    refine ⟨⟨i0, hlt⟩, by decide, by omega, by omega, ⟨by omega, by omega, by rw [List.length_append, List.length_singleton]; omega, ?_⟩, by omega⟩
    rw [drop_cons s i.toNat (by omega), plain_one hc] at e
    rw [e, show i.toNat + 1 = (i + 1).toNat by omega]
    cases plainO (s.drop (i + 1).toNat) <;> simp
  · rw [List.drop_of_length_le (by omega)] at e
    rw [plainD_some (v := b) (by rw [e]; simp [plainO])]
theorem h37 : c_name_plain.ok Tryd.prog GL 37 := con_ok (H := {}) (mkEnv_ok (gl := GL) (l := []) (q := []) (d := []) _ tyOk (by kernel_rfl) trivial trivial trivial) (by kernel_rfl) (by kernel_rfl) (Eq.mp e37 k37)

def t38 : Prop :=
  ∀ (x : List Int × Unit), Kd.wf Kd.str x.fst ∧ True → True → ∃ (I : Int × Int × Unit → Unit → Prop), ∃ (μ : Int × Int × Unit → Unit → Nat), (x.fst = x.fst ∧ I ((0 : Int), (0 : Int), ()) ())
  ∧ ∀ (y : Int × Int × Unit) (z : Unit), Kd.wf (Kd.int IntKind.i64) y.fst ∧ Kd.wf (Kd.int IntKind.i64) y.snd.fst ∧ True → True → I y z → (decide (y.fst < (12 : Int)) = true → (decide (x.fst ≠
  bs { data := #[] }) = true → True) ∧ (decide (x.fst ≠ bs { data := #[] }) = true → (decide (x.fst ≠ bs { data := #[] }) == true) = true ∧ True ∧ (∀ (y_1 : List Int × Unit), Kd.wf Kd.str
  y_1.fst ∧ True → y_1.fst = labelK y.fst → (decide (y_1.fst = x.fst) = true → y.fst = typK x.fst) ∧ (decide (y_1.fst = x.fst) = false → x.fst = x.fst ∧ I (IntKind.wrap IntKind.i64 (y.fst +
  (1 : Int)), y.snd.fst, ()) () ∧ μ (IntKind.wrap IntKind.i64 (y.fst + (1 : Int)), y.snd.fst, ()) () < μ y z)) ∧ True) ∧ (decide (x.fst ≠ bs { data := #[] }) = !true → x.fst = x.fst ∧ I
  (IntKind.wrap IntKind.i64 (y.fst + (1 : Int)), y.snd.fst, ()) () ∧ μ (IntKind.wrap IntKind.i64 (y.fst + (1 : Int)), y.snd.fst, ()) () < μ y z)) ∧ (decide (y.fst < (12 : Int)) = false → (0 :
  Int) = typK x.fst)
theorem e38 : t38 = Con.vc c_name_typeOf GL (mkEnv ty [(53, conSem c_name_label)] [] [] [0, 2, 3, 4, 5, 14]) {} Tryd.f38.ntmps Tryd.f38.results.toList (bodyOf Tryd.f38) := by kernel_rfl
theorem k38 : t38 := by
  unfold t38
  rintro ⟨s, _⟩ hx hp
  try dsimp +instances only [dft_int, dft_sl, dft_str]
  simp only [true_and, and_true, eq_self_iff_true, implies_true, reduceCtorEq, false_implies, true_implies, decide_eq_true_eq, decide_eq_false_iff_not, beq_self_eq_true, Bool.not_eq_true', ne_eq, Decidable.not_not, List.nil_append, List.length_singleton, List.length_cons, List.length_nil, Nat.zero_add, Nat.add_zero, Nat.mul_one, and_self, beq_iff_eq, Bool.not_true, Bool.not_false, Bool.not_eq_false', Bool.cond_false_right, Bool.and_eq_true, imp_self, Bool.not_eq_true, Bool.cond_true_left, Bool.or_eq_true]
  rw [bs_nil]
  refine ⟨fun y _ => 0 ≤ y.1 ∧ y.1 ≤ 12 ∧ ∀ k : Int, 0 ≤ k → k < y.1 → s ≠ [] → labelK k ≠ s, fun y _ => (12 - y.1).toNat, ⟨Int.le_refl 0, by simp only; omega, fun k h0 h1 => by simp only at h1; omega⟩, ?_⟩
  rintro ⟨i, q, _⟩ _ _ ⟨i0, i1, h⟩
  simp only at i0 i1 h ⊢
  refine ⟨fun hlt => ?_, fun hge => ?_⟩
  · rw [wrapK (i + 1) (by omega) (by omega)]
    have step : (s ≠ [] → labelK i ≠ s) → (0 ≤ i + 1 ∧ i + 1 ≤ 12 ∧ ∀ k : Int, 0 ≤ k → k < i + 1 → s ≠ [] → labelK k ≠ s) := fun hn => ⟨by omega, by omega, fun k h0 h1 => by
      by_cases hk : k = i
      · subst hk; exact hn
      · exact h k h0 (by omega)⟩
    refine ⟨fun hs => ⟨hs, ?_⟩, fun hs => ⟨step fun hn => absurd hs hn, by omega⟩⟩
    rintro ⟨l, _⟩ _ el
    simp only at el ⊢
    subst el
    refine ⟨fun e => ?_, fun e => ⟨step fun _ => e, by omega⟩⟩
    rw [← e] at hs ⊢
    exact (typ_label hs).symm
  · by_cases h0 : typK s = 0
    · exact h0.symm
    · obtain ⟨k0, k1, k2, k3⟩ := typ_range h0
      exact absurd k2 (h (typK s) k0 (by omega) k3)
theorem h38 : c_name_typeOf.ok Tryd.prog GL 38 := con_ok (H := {}) (mkEnv_ok (gl := GL) (l := [(53, conSem c_name_label)]) (q := []) (d := []) _ tyOk (by kernel_rfl) ⟨h53.call, trivial⟩ trivial trivial) (by kernel_rfl) (by kernel_rfl) (Eq.mp e38 k38)

def t40 : Prop :=
  ∀ (x : Int × Unit), Kd.wf (Kd.int IntKind.i64) x.fst ∧ True → True → (decide (x.fst < (0 : Int)) = false → True) ∧ (decide (x.fst < (0 : Int)) = false → True) ∧ (decide (x.fst < (0 : Int))
  = false → (decide (x.fst < (0 : Int)) == false) = true ∧ True) ∧ (decide (x.fst < (0 : Int)) = false → (decide (x.fst < (0 : Int)) == false) = true ∧ (decide (x.fst < (0 : Int)) == false) =
  true ∧ True) ∧ (decide (x.fst < (0 : Int)) = false → (decide (x.fst < (0 : Int)) == false) = true) ∧ ((bif decide (x.fst < (0 : Int)) then true else decide ((↑(12 : Nat) : Int) ≤ x.fst)) =
  true → bs { data := #[] } = labelK x.fst) ∧ ((bif decide (x.fst < (0 : Int)) then true else decide ((↑(12 : Nat) : Int) ≤ x.fst)) = false → ((0 : Int) ≤ x.fst ∧ x.fst < (↑(12 : Nat) : Int))
  ∧ List.getD [bs { data := #[] }, bs { data := #[] }, bs { data := #[] }, bs { data := #[(67 : UInt8), (78 : UInt8)] }, bs { data := #[] }, bs { data := #[(83 : UInt8), (78 : UInt8)] }, bs {
  data := #[(67 : UInt8)] }, bs { data := #[(76 : UInt8)] }, bs { data := #[(83 : UInt8), (84 : UInt8)] }, bs { data := #[] }, bs { data := #[(79 : UInt8)] }, bs { data := #[(79 : UInt8), (85
  : UInt8)] }] (Int.toNat x.fst) (Kd.dft Kd.str) = labelK x.fst)
theorem e40 : t40 = Con.vc c_r12_Label GL (mkEnv ty [] [] [] [0, 2, 3, 12]) {} Tryd.f40.ntmps Tryd.f40.results.toList (bodyOf Tryd.f40) := by kernel_rfl
theorem k40 : t40 := by
  unfold t40
  rintro ⟨k, _⟩ hx hp
  try dsimp +instances only [dft_int, dft_sl, dft_str]
  simp only [true_and, and_true, eq_self_iff_true, implies_true, reduceCtorEq, false_implies, true_implies, decide_eq_true_eq, decide_eq_false_iff_not, beq_self_eq_true, Bool.not_eq_true', ne_eq, Decidable.not_not, List.nil_append, List.length_singleton, List.length_cons, List.length_nil, Nat.zero_add, Nat.add_zero, Nat.mul_one, and_self, beq_iff_eq, Bool.not_true, Bool.not_false, Bool.not_eq_false', Bool.cond_false_right, Bool.and_eq_true, imp_self, Bool.not_eq_true, Bool.cond_true_left, Bool.or_eq_true]
  rw [bs_nil, show bs { data := #[67, 78] } = [67, 78] by decide, show bs { data := #[83, 78] } = [83, 78] by decide, show bs { data := #[67] } = [67] by decide, show bs { data := #[76] } = [76] by decide, show bs { data := #[83, 84] } = [83, 84] by decide, show bs { data := #[79] } = [79] by decide, show bs { data := #[79, 85] } = [79, 85] by decide]
  refine ⟨fun h => (label_out (by omega)).symm, fun h => ?_⟩
  simp only [Bool.or_eq_false_iff, decide_eq_false_iff_not] at h
  exact ⟨⟨by omega, by omega⟩, labels12 (by omega) (by omega)⟩
theorem h40 : c_r12_Label.ok Tryd.prog GL 40 := con_ok (H := {}) (mkEnv_ok (gl := GL) (l := []) (q := []) (d := []) _ tyOk (by kernel_rfl) trivial trivial trivial) (by kernel_rfl) (by kernel_rfl) (Eq.mp e40 k40)

def t56 : Prop :=
  ∀ (x : (Int × List Int) × Unit), Kd.wf (Kd.pair (Kd.int IntKind.i64) Kd.str) x.fst ∧ True → List.length x.fst.snd ≤ (100000000 : Nat) → List.length [SV.dat (Kd.int IntKind.i64) x.fst.fst,
  SV.dat Kd.str x.fst.snd] ≤ (65536 : Nat) ∧ True ∧ (∀ (y : List Int × Unit), Kd.wf Kd.str y.fst ∧ True → y.fst = labelK x.fst.fst → (decide (y.fst = bs { data := #[] }) = false → True) ∧
  (decide (y.fst = bs { data := #[] }) = false → (decide (y.fst = bs { data := #[] }) == false) = true ∧ True) ∧ (decide (y.fst = bs { data := #[] }) = false → (decide (y.fst = bs { data :=
  #[] }) == false) = true ∧ True) ∧ (decide (y.fst = bs { data := #[] }) = false → (decide (y.fst = bs { data := #[] }) == false) = true ∧ True) ∧ (decide (y.fst = bs { data := #[] }) = false
  → (decide (y.fst = bs { data := #[] }) == false) = true) ∧ ((bif decide (y.fst = bs { data := #[] }) then true else decide ((↑(List.length x.fst.snd) : Int) < (1 : Int))) = false → True) ∧
  ((bif decide (y.fst = bs { data := #[] }) then true else decide ((↑(List.length x.fst.snd) : Int) < (1 : Int))) = false → ((bif decide (y.fst = bs { data := #[] }) then true else decide
  ((↑(List.length x.fst.snd) : Int) < (1 : Int))) == false) = true ∧ True) ∧ ((bif decide (y.fst = bs { data := #[] }) then true else decide ((↑(List.length x.fst.snd) : Int) < (1 : Int))) =
  false → ((bif decide (y.fst = bs { data := #[] }) then true else decide ((↑(List.length x.fst.snd) : Int) < (1 : Int))) == false) = true ∧ True) ∧ ((bif decide (y.fst = bs { data := #[] })
  then true else decide ((↑(List.length x.fst.snd) : Int) < (1 : Int))) = false → ((bif decide (y.fst = bs { data := #[] }) then true else decide ((↑(List.length x.fst.snd) : Int) < (1 :
  Int))) == false) = true ∧ True) ∧ ((bif decide (y.fst = bs { data := #[] }) then true else decide ((↑(List.length x.fst.snd) : Int) < (1 : Int))) = false → ((bif decide (y.fst = bs { data
  := #[] }) then true else decide ((↑(List.length x.fst.snd) : Int) < (1 : Int))) == false) = true) ∧ ((bif bif decide (y.fst = bs { data := #[] }) then true else decide ((↑(List.length
  x.fst.snd) : Int) < (1 : Int)) then true else decide ((64 : Int) < (↑(List.length x.fst.snd) : Int))) = false → True) ∧ ((bif bif decide (y.fst = bs { data := #[] }) then true else decide
  ((↑(List.length x.fst.snd) : Int) < (1 : Int)) then true else decide ((64 : Int) < (↑(List.length x.fst.snd) : Int))) = false → ((bif bif decide (y.fst = bs { data := #[] }) then true else
  decide ((↑(List.length x.fst.snd) : Int) < (1 : Int)) then true else decide ((64 : Int) < (↑(List.length x.fst.snd) : Int))) == false) = true ∧ True) ∧ ((bif bif decide (y.fst = bs { data
  := #[] }) then true else decide ((↑(List.length x.fst.snd) : Int) < (1 : Int)) then true else decide ((64 : Int) < (↑(List.length x.fst.snd) : Int))) = false → ((bif bif decide (y.fst = bs
  { data := #[] }) then true else decide ((↑(List.length x.fst.snd) : Int) < (1 : Int)) then true else decide ((64 : Int) < (↑(List.length x.fst.snd) : Int))) == false) = true ∧ List.length
  x.fst.snd ≤ (1000000000 : Nat) ∧ (∀ (y : Bool × Unit), Kd.wf Kd.bool y.fst ∧ True → y.fst = mayD (12 : Int) x.fst.snd → ((!y.fst) = true → false = mayA x.fst) ∧ ((!y.fst) = false → (decide
  (x.fst.fst = (5 : Int)) = true → List.length x.fst.snd ≤ (1000000000 : Nat) ∧ (∀ (y : Bool × Unit), Kd.wf Kd.bool y.fst ∧ True → y.fst = mayD (19 : Int) x.fst.snd → y.fst = mayA x.fst) ∧
  True) ∧ (decide (x.fst.fst = (5 : Int)) = false → (decide (x.fst.fst = (6 : Int)) = true → (decide ((↑(List.length x.fst.snd) : Int) = (2 : Int)) = true → True) ∧ (decide ((↑(List.length
  x.fst.snd) : Int) = (2 : Int)) = true → (decide ((↑(List.length x.fst.snd) : Int) = (2 : Int)) == true) = true ∧ True) ∧ (decide ((↑(List.length x.fst.snd) : Int) = (2 : Int)) = true →
  (decide ((↑(List.length x.fst.snd) : Int) = (2 : Int)) == true) = true ∧ ((0 : Int) ≤ (0 : Int) ∧ (0 : Int) < (↑(List.length x.fst.snd) : Int)) ∧ True) ∧ (decide ((↑(List.length x.fst.snd)
  : Int) = (2 : Int)) = true → (decide ((↑(List.length x.fst.snd) : Int) = (2 : Int)) == true) = true ∧ True) ∧ (decide ((↑(List.length x.fst.snd) : Int) = (2 : Int)) = true → (decide
  ((↑(List.length x.fst.snd) : Int) = (2 : Int)) == true) = true) ∧ ((bif decide ((↑(List.length x.fst.snd) : Int) = (2 : Int)) then decide ((65 : Int) ≤ List.getD x.fst.snd (0 : Nat) (0 :
  Int)) else false) = true → True) ∧ ((bif decide ((↑(List.length x.fst.snd) : Int) = (2 : Int)) then decide ((65 : Int) ≤ List.getD x.fst.snd (0 : Nat) (0 : Int)) else false) = true → ((bif
  decide ((↑(List.length x.fst.snd) : Int) = (2 : Int)) then decide ((65 : Int) ≤ List.getD x.fst.snd (0 : Nat) (0 : Int)) else false) == true) = true ∧ True) ∧ ((bif decide ((↑(List.length
  x.fst.snd) : Int) = (2 : Int)) then decide ((65 : Int) ≤ List.getD x.fst.snd (0 : Nat) (0 : Int)) else false) = true → ((bif decide ((↑(List.length x.fst.snd) : Int) = (2 : Int)) then
  decide ((65 : Int) ≤ List.getD x.fst.snd (0 : Nat) (0 : Int)) else false) == true) = true ∧ ((0 : Int) ≤ (0 : Int) ∧ (0 : Int) < (↑(List.length x.fst.snd) : Int)) ∧ True) ∧ ((bif decide
  ((↑(List.length x.fst.snd) : Int) = (2 : Int)) then decide ((65 : Int) ≤ List.getD x.fst.snd (0 : Nat) (0 : Int)) else false) = true → ((bif decide ((↑(List.length x.fst.snd) : Int) = (2 :
  Int)) then decide ((65 : Int) ≤ List.getD x.fst.snd (0 : Nat) (0 : Int)) else false) == true) = true ∧ True) ∧ ((bif decide ((↑(List.length x.fst.snd) : Int) = (2 : Int)) then decide ((65 :
  Int) ≤ List.getD x.fst.snd (0 : Nat) (0 : Int)) else false) = true → ((bif decide ((↑(List.length x.fst.snd) : Int) = (2 : Int)) then decide ((65 : Int) ≤ List.getD x.fst.snd (0 : Nat) (0 :
  Int)) else false) == true) = true) ∧ ((bif bif decide ((↑(List.length x.fst.snd) : Int) = (2 : Int)) then decide ((65 : Int) ≤ List.getD x.fst.snd (0 : Nat) (0 : Int)) else false then
  decide (List.getD x.fst.snd (0 : Nat) (0 : Int) ≤ (90 : Int)) else false) = true → True) ∧ ((bif bif decide ((↑(List.length x.fst.snd) : Int) = (2 : Int)) then decide ((65 : Int) ≤
  List.getD x.fst.snd (0 : Nat) (0 : Int)) else false then decide (List.getD x.fst.snd (0 : Nat) (0 : Int) ≤ (90 : Int)) else false) = true → ((bif bif decide ((↑(List.length x.fst.snd) :
  Int) = (2 : Int)) then decide ((65 : Int) ≤ List.getD x.fst.snd (0 : Nat) (0 : Int)) else false then decide (List.getD x.fst.snd (0 : Nat) (0 : Int) ≤ (90 : Int)) else false) == true) =
  true ∧ True) ∧ ((bif bif decide ((↑(List.length x.fst.snd) : Int) = (2 : Int)) then decide ((65 : Int) ≤ List.getD x.fst.snd (0 : Nat) (0 : Int)) else false then decide (List.getD x.fst.snd
  (0 : Nat) (0 : Int) ≤ (90 : Int)) else false) = true → ((bif bif decide ((↑(List.length x.fst.snd) : Int) = (2 : Int)) then decide ((65 : Int) ≤ List.getD x.fst.snd (0 : Nat) (0 : Int))
  else false then decide (List.getD x.fst.snd (0 : Nat) (0 : Int) ≤ (90 : Int)) else false) == true) = true ∧ ((0 : Int) ≤ (1 : Int) ∧ (1 : Int) < (↑(List.length x.fst.snd) : Int)) ∧ True) ∧
  ((bif bif decide ((↑(List.length x.fst.snd) : Int) = (2 : Int)) then decide ((65 : Int) ≤ List.getD x.fst.snd (0 : Nat) (0 : Int)) else false then decide (List.getD x.fst.snd (0 : Nat) (0 :
  Int) ≤ (90 : Int)) else false) = true → ((bif bif decide ((↑(List.length x.fst.snd) : Int) = (2 : Int)) then decide ((65 : Int) ≤ List.getD x.fst.snd (0 : Nat) (0 : Int)) else false then
  decide (List.getD x.fst.snd (0 : Nat) (0 : Int) ≤ (90 : Int)) else false) == true) = true ∧ True) ∧ ((bif bif decide ((↑(List.length x.fst.snd) : Int) = (2 : Int)) then decide ((65 : Int) ≤
  List.getD x.fst.snd (0 : Nat) (0 : Int)) else false then decide (List.getD x.fst.snd (0 : Nat) (0 : Int) ≤ (90 : Int)) else false) = true → ((bif bif decide ((↑(List.length x.fst.snd) :
  Int) = (2 : Int)) then decide ((65 : Int) ≤ List.getD x.fst.snd (0 : Nat) (0 : Int)) else false then decide (List.getD x.fst.snd (0 : Nat) (0 : Int) ≤ (90 : Int)) else false) == true) =
  true) ∧ ((bif bif bif decide ((↑(List.length x.fst.snd) : Int) = (2 : Int)) then decide ((65 : Int) ≤ List.getD x.fst.snd (0 : Nat) (0 : Int)) else false then decide (List.getD x.fst.snd (0
  : Nat) (0 : Int) ≤ (90 : Int)) else false then decide ((65 : Int) ≤ List.getD x.fst.snd (1 : Nat) (0 : Int)) else false) = true → True) ∧ ((bif bif bif decide ((↑(List.length x.fst.snd) :
  Int) = (2 : Int)) then decide ((65 : Int) ≤ List.getD x.fst.snd (0 : Nat) (0 : Int)) else false then decide (List.getD x.fst.snd (0 : Nat) (0 : Int) ≤ (90 : Int)) else false then decide
  ((65 : Int) ≤ List.getD x.fst.snd (1 : Nat) (0 : Int)) else false) = true → ((bif bif bif decide ((↑(List.length x.fst.snd) : Int) = (2 : Int)) then decide ((65 : Int) ≤ List.getD x.fst.snd
  (0 : Nat) (0 : Int)) else false then decide (List.getD x.fst.snd (0 : Nat) (0 : Int) ≤ (90 : Int)) else false then decide ((65 : Int) ≤ List.getD x.fst.snd (1 : Nat) (0 : Int)) else false)
  == true) = true ∧ True) ∧ ((bif bif bif decide ((↑(List.length x.fst.snd) : Int) = (2 : Int)) then decide ((65 : Int) ≤ List.getD x.fst.snd (0 : Nat) (0 : Int)) else false then decide
  (List.getD x.fst.snd (0 : Nat) (0 : Int) ≤ (90 : Int)) else false then decide ((65 : Int) ≤ List.getD x.fst.snd (1 : Nat) (0 : Int)) else false) = true → ((bif bif bif decide
  ((↑(List.length x.fst.snd) : Int) = (2 : Int)) then decide ((65 : Int) ≤ List.getD x.fst.snd (0 : Nat) (0 : Int)) else false then decide (List.getD x.fst.snd (0 : Nat) (0 : Int) ≤ (90 :
  Int)) else false then decide ((65 : Int) ≤ List.getD x.fst.snd (1 : Nat) (0 : Int)) else false) == true) = true ∧ ((0 : Int) ≤ (1 : Int) ∧ (1 : Int) < (↑(List.length x.fst.snd) : Int)) ∧
  True) ∧ ((bif bif bif decide ((↑(List.length x.fst.snd) : Int) = (2 : Int)) then decide ((65 : Int) ≤ List.getD x.fst.snd (0 : Nat) (0 : Int)) else false then decide (List.getD x.fst.snd (0
  : Nat) (0 : Int) ≤ (90 : Int)) else false then decide ((65 : Int) ≤ List.getD x.fst.snd (1 : Nat) (0 : Int)) else false) = true → ((bif bif bif decide ((↑(List.length x.fst.snd) : Int) = (2
  : Int)) then decide ((65 : Int) ≤ List.getD x.fst.snd (0 : Nat) (0 : Int)) else false then decide (List.getD x.fst.snd (0 : Nat) (0 : Int) ≤ (90 : Int)) else false then decide ((65 : Int) ≤
  List.getD x.fst.snd (1 : Nat) (0 : Int)) else false) == true) = true ∧ True) ∧ ((bif bif bif decide ((↑(List.length x.fst.snd) : Int) = (2 : Int)) then decide ((65 : Int) ≤ List.getD
  x.fst.snd (0 : Nat) (0 : Int)) else false then decide (List.getD x.fst.snd (0 : Nat) (0 : Int) ≤ (90 : Int)) else false then decide ((65 : Int) ≤ List.getD x.fst.snd (1 : Nat) (0 : Int))
  else false) = true → ((bif bif bif decide ((↑(List.length x.fst.snd) : Int) = (2 : Int)) then decide ((65 : Int) ≤ List.getD x.fst.snd (0 : Nat) (0 : Int)) else false then decide (List.getD
  x.fst.snd (0 : Nat) (0 : Int) ≤ (90 : Int)) else false then decide ((65 : Int) ≤ List.getD x.fst.snd (1 : Nat) (0 : Int)) else false) == true) = true) ∧ (bif bif bif bif decide
  ((↑(List.length x.fst.snd) : Int) = (2 : Int)) then decide ((65 : Int) ≤ List.getD x.fst.snd (0 : Nat) (0 : Int)) else false then decide (List.getD x.fst.snd (0 : Nat) (0 : Int) ≤ (90 :
  Int)) else false then decide ((65 : Int) ≤ List.getD x.fst.snd (1 : Nat) (0 : Int)) else false then decide (List.getD x.fst.snd (1 : Nat) (0 : Int) ≤ (90 : Int)) else false) = mayA x.fst) ∧
  (decide (x.fst.fst = (6 : Int)) = false → true = mayA x.fst)))) ∧ True) ∧ ((bif bif decide (y.fst = bs { data := #[] }) then true else decide ((↑(List.length x.fst.snd) : Int) < (1 : Int))
  then true else decide ((64 : Int) < (↑(List.length x.fst.snd) : Int))) = !false → false = mayA x.fst)) ∧ True
theorem e56 : t56 = Con.vc c_r12_MayAttr GL (mkEnv ty [(40, conSem c_r12_Label), (75, conSem c_r05_May)] [] [] [0, 1, 2, 24, 27, 33]) {} Tryd.f56.ntmps Tryd.f56.results.toList (bodyOf Tryd.f56) := by kernel_rfl
theorem k56 : t56 := by
  unfold t56
  rintro ⟨⟨k, v⟩, _⟩ hx hp
  have hp : v.length ≤ 100000000 := hp
  try dsimp +instances only [dft_int, dft_sl, dft_str]
  simp only [true_and, and_true, eq_self_iff_true, implies_true, reduceCtorEq, false_implies, true_implies, decide_eq_true_eq, decide_eq_false_iff_not, beq_self_eq_true, Bool.not_eq_true', ne_eq, Decidable.not_not, List.nil_append, List.length_singleton, List.length_cons, List.length_nil, Nat.zero_add, Nat.add_zero, Nat.mul_one, and_self, beq_iff_eq, Bool.not_true, Bool.not_false, Bool.not_eq_false', Bool.cond_false_right, Bool.and_eq_true, imp_self, Bool.not_eq_true, Bool.cond_true_left, Bool.or_eq_true]
  rw [bs_nil]
  refine ⟨by decide, ?_⟩
  rintro ⟨a, _⟩ _ ea
  simp only at ea ⊢
  subst ea
  have hv : v = [] ↔ v.length = 0 := ⟨fun h => by rw [h]; rfl, List.eq_nil_of_length_eq_zero⟩
  simp only [Bool.or_eq_false_iff, decide_eq_false_iff_not]
  refine ⟨fun h => ⟨h, by omega, ?_⟩, fun h => ?_⟩
  · have hM : mayA (k, v) = (mayD 12 v && (if k = 6 then capsD v && mayD 19 v else if k = 5 then mayD 19 v else true)) := by
      rw [mayA, decide_eq_true ⟨h.1.1, fun e => h.1.2 (by rw [hv.1 e]; decide), by simp only; omega⟩]; rfl
    rintro ⟨b, _⟩ _ eb
    simp only at eb ⊢
    rw [hM, ← eb]
    refine ⟨fun hb => by rw [hb]; rfl, fun hb => ?_⟩
    rw [hb]
    refine ⟨fun hk => ⟨by omega, ?_⟩, fun hk => ⟨fun hk6 => ⟨fun h => ⟨h, by decide, by omega⟩, fun h => ⟨h, by decide, by omega⟩, fun h => ⟨h, by decide, by omega⟩, fun h => ⟨h, by decide, by omega⟩, ?_⟩, fun hk6 => by rw [if_neg hk6, if_neg hk]; rfl⟩⟩
    · rintro ⟨d, _⟩ _ ed
      simp only at ed ⊢
      rw [if_neg (by omega), if_pos hk, ed]; rfl
    · rw [if_pos hk6, caps_prints v, Bool.true_and, Bool.eq_iff_iff, capsD]
      simp only [Bool.and_eq_true, decide_eq_true_eq]
      omega
  · have key : ¬ (labelK k ≠ [] ∧ v ≠ [] ∧ v.length ≤ 64) := by
      rintro ⟨h1, h2, h3⟩
      rcases h with (h | h) | h
      · exact h1 h
      · exact h2 (hv.2 (by omega))
      · omega
    rw [mayA]
    simp only
    rw [decide_eq_false key]; rfl
theorem h56 : c_r12_MayAttr.ok Tryd.prog GL 56 := con_ok (H := {}) (mkEnv_ok (gl := GL) (l := [(40, conSem c_r12_Label), (75, conSem c_r05_May)]) (q := []) (d := []) _ tyOk (by kernel_rfl) ⟨h40.call, h75.call, trivial⟩ trivial trivial) (by kernel_rfl) (by kernel_rfl) (Eq.mp e56 k56)

def t30 : Prop :=
  ∀ (x : List (Int × List Int) × Unit), Kd.wf (Kd.sl (Kd.pair (Kd.int IntKind.i64) Kd.str)) x.fst ∧ True → (List.length x.fst ≤ (1000000000 : Nat) ∧ ∀ (a : Int × List Int), a ∈ x.fst →
  List.length a.snd ≤ (100000000 : Nat)) → ∃ (I : Int × Bool × Unit → Unit → Prop), ∃ (μ : Int × Bool × Unit → Unit → Nat), (x.fst = x.fst ∧ I ((0 : Int), false, ()) ()) ∧ ∀ (y : Int × Bool ×
  Unit) (z : Unit), Kd.wf (Kd.int IntKind.i64) y.fst ∧ Kd.wf Kd.bool y.snd.fst ∧ True → True → I y z → (decide (y.fst < (↑(List.length x.fst) : Int)) = true → ((0 : Int) ≤ y.fst ∧ y.fst <
  (↑(List.length x.fst) : Int)) ∧ List.length (List.getD x.fst (Int.toNat y.fst) (Kd.dft (Kd.pair (Kd.int IntKind.i64) Kd.str))).snd ≤ (100000000 : Nat) ∧ (∀ (y_1 : Bool × Unit), Kd.wf
  Kd.bool y_1.fst ∧ True → y_1.fst = mayA (List.getD x.fst (Int.toNat y.fst) (Kd.dft (Kd.pair (Kd.int IntKind.i64) Kd.str))) → ((!y_1.fst) = true → false = mayN x.fst) ∧ ((!y_1.fst) = false →
  x.fst = x.fst ∧ I (IntKind.wrap IntKind.i64 (y.fst + (1 : Int)), y.snd.fst, ()) () ∧ μ (IntKind.wrap IntKind.i64 (y.fst + (1 : Int)), y.snd.fst, ()) () < μ y z)) ∧ True) ∧ (decide (y.fst <
  (↑(List.length x.fst) : Int)) = false → decide ((↑(List.length x.fst) : Int) ≤ (16 : Int)) = mayN x.fst)
theorem e30 : t30 = Con.vc c_r12_May GL (mkEnv ty [(56, conSem c_r12_MayAttr)] [] [] [0, 2, 3, 7, 15]) {} Tryd.f30.ntmps Tryd.f30.results.toList (bodyOf Tryd.f30) := by kernel_rfl
theorem k30 : t30 := by
  unfold t30
  rintro ⟨l, _⟩ hx hp
  obtain ⟨h1, h2⟩ := hp
  simp only at h1 h2
  try dsimp +instances only [dft_int, dft_sl, dft_str]
  simp only [true_and, and_true, eq_self_iff_true, implies_true, reduceCtorEq, false_implies, true_implies, decide_eq_true_eq, decide_eq_false_iff_not, beq_self_eq_true, Bool.not_eq_true', ne_eq, Decidable.not_not, List.nil_append, List.length_singleton, List.length_cons, List.length_nil, Nat.zero_add, Nat.add_zero, Nat.mul_one, and_self, beq_iff_eq, Bool.not_true, Bool.not_false, Bool.not_eq_false', Bool.cond_false_right, Bool.and_eq_true, imp_self, Bool.not_eq_true, Bool.cond_true_left, Bool.or_eq_true]
  simp only [adft_eq3]
  refine ⟨fun y _ => 0 ≤ y.1 ∧ y.1 ≤ l.length ∧ ∀ j, j < y.1.toNat → mayA (l.getD j adft) = true, fun y _ => ((l.length : Int) - y.1).toNat, ⟨Int.le_refl 0, by simp only; omega, fun j hj => by simp at hj⟩, ?_⟩
  rintro ⟨i, b, _⟩ _ _ ⟨i0, i1, i2⟩
  simp only at i0 i1 i2 ⊢
  refine ⟨fun hlt => ⟨⟨i0, hlt⟩, h2 _ (mem_getD adft l _ (by omega)), ?_⟩, fun hge => ?_⟩
  · rintro ⟨c, _⟩ _ ec
    simp only at ec ⊢
    rw [wrapK (i + 1) (by omega) (by omega)]
    refine ⟨fun hc => ?_, fun hc => ⟨⟨by omega, by omega, fun j hj => ?_⟩, by omega⟩⟩
    · rw [mayN, all_notA adft _ _ i.toNat (by omega) (ec.symm.trans hc), Bool.and_false]
    by_cases hji : j < i.toNat
    · exact i2 j hji
    · rw [show j = i.toNat by omega]; exact ec.symm.trans hc
  · rw [mayN, all_getA adft _ _ (fun j hj => i2 j (by omega)), Bool.and_true]
    exact decide_eq_decide.2 (by omega)
theorem h30 : c_r12_May.ok Tryd.prog GL 30 := con_ok (H := {}) (mkEnv_ok (gl := GL) (l := [(56, conSem c_r12_MayAttr)]) (q := []) (d := []) _ tyOk (by kernel_rfl) ⟨h56.call, trivial⟩ trivial trivial) (by kernel_rfl) (by kernel_rfl) (Eq.mp e30 k30)

def t28 : Prop :=
  ∀ (x : List (Int × List Int) × Unit), Kd.wf (Kd.sl (Kd.pair (Kd.int IntKind.i64) Kd.str)) x.fst ∧ True → (List.length x.fst ≤ (1000000000 : Nat) ∧ ∀ (a : Int × List Int), a ∈ x.fst →
  List.length a.snd ≤ (100000000 : Nat)) → (List.length x.fst ≤ (1000000000 : Nat) ∧ ∀ (a : Int × List Int), a ∈ x.fst → List.length a.snd ≤ (100000000 : Nat)) ∧ (∀ (y : Bool × Unit), Kd.wf
  Kd.bool y.fst ∧ True → y.fst = mayN x.fst → ((!y.fst) = true → (bs { data := #[] }, (120 : Int)) = TextN x.fst) ∧ ((!y.fst) = false → ∃ (I : Int × List Int × Unit → Unit → Prop), ∃ (μ : Int
  × List Int × Unit → Unit → Nat), (Value.bool false = Value.bool false ∧ (0 : Int) = (0 : Int) ∧ bs { data := #[] } = bs { data := #[] } ∧ x.fst = x.fst ∧ I ((0 : Int), bs { data := #[] },
  ()) ()) ∧ ∀ (y : Int × List Int × Unit) (z : Unit), Kd.wf (Kd.int IntKind.i64) y.fst ∧ Kd.wf Kd.str y.snd.fst ∧ True → True → I y z → (decide (y.fst < (↑(List.length x.fst) : Int)) = true →
  ∃ (J : List Int × Unit → Unit → Prop), ((decide ((0 : Int) < y.fst) = true → List.length y.snd.fst + (1 : Nat) ≤ (9223372036854775807 : Nat) ∧ Value.bool true = Value.bool true ∧ y.fst =
  y.fst ∧ Value.bool false = Value.bool false ∧ (0 : Int) = (0 : Int) ∧ bs { data := #[] } = bs { data := #[] } ∧ x.fst = x.fst ∧ J (y.snd.fst ++ bs { data := #[(44 : UInt8)] }, ()) ()) ∧
  (decide ((0 : Int) < y.fst) = false → Value.bool true = Value.bool true ∧ y.fst = y.fst ∧ Value.bool false = Value.bool false ∧ (0 : Int) = (0 : Int) ∧ bs { data := #[] } = bs { data := #[]
  } ∧ x.fst = x.fst ∧ J (y.snd.fst, ()) ())) ∧ ∀ (u : List Int × Unit) (z_1 : Unit), Kd.wf Kd.str u.fst ∧ True → True → J u z_1 → ((0 : Int) ≤ y.fst ∧ y.fst < (↑(List.length x.fst) : Int)) ∧
  True ∧ (∀ (y_1 : List Int × Unit), Kd.wf Kd.str y_1.fst ∧ True → y_1.fst = labelK (List.getD x.fst (Int.toNat y.fst) (Kd.dft (Kd.pair (Kd.int IntKind.i64) Kd.str))).fst → List.length u.fst
  + List.length y_1.fst ≤ (9223372036854775807 : Nat) ∧ List.length (u.fst ++ y_1.fst) + (1 : Nat) ≤ (9223372036854775807 : Nat) ∧ ∃ (I_1 : Int × List Int × Unit → Unit → Prop), ∃ (μ_1 : Int
  × List Int × Unit → Unit → Nat), (Value.bool true = Value.bool true ∧ y.fst = y.fst ∧ Value.bool false = Value.bool false ∧ (0 : Int) = (0 : Int) ∧ bs { data := #[] } = bs { data := #[] } ∧
  x.fst = x.fst ∧ I_1 ((0 : Int), u.fst ++ y_1.fst ++ bs { data := #[(61 : UInt8)] }, ()) ()) ∧ ∀ (y_2 : Int × List Int × Unit) (z_2 : Unit), Kd.wf (Kd.int IntKind.i64) y_2.fst ∧ Kd.wf Kd.str
  y_2.snd.fst ∧ True → True → I_1 y_2 z_2 → ((0 : Int) ≤ y.fst ∧ y.fst < (↑(List.length x.fst) : Int)) ∧ (decide (y_2.fst < (↑(List.length (List.getD x.fst (Int.toNat y.fst) (Kd.dft (Kd.pair
  (Kd.int IntKind.i64) Kd.str))).snd) : Int)) = true → ((0 : Int) ≤ y.fst ∧ y.fst < (↑(List.length x.fst) : Int)) ∧ ((0 : Int) ≤ y_2.fst ∧ y_2.fst < (↑(List.length (List.getD x.fst (Int.toNat
  y.fst) (Kd.dft (Kd.pair (Kd.int IntKind.i64) Kd.str))).snd) : Int)) ∧ ∃ (J : List Int × Unit → Unit → Prop), ((decide (List.getD (List.getD x.fst (Int.toNat y.fst) (Kd.dft (Kd.pair (Kd.int
  IntKind.i64) Kd.str))).snd (Int.toNat y_2.fst) (0 : Int) = (44 : Int)) = false → True) ∧ (decide (List.getD (List.getD x.fst (Int.toNat y.fst) (Kd.dft (Kd.pair (Kd.int IntKind.i64)
  Kd.str))).snd (Int.toNat y_2.fst) (0 : Int) = (44 : Int)) = false → (decide (List.getD (List.getD x.fst (Int.toNat y.fst) (Kd.dft (Kd.pair (Kd.int IntKind.i64) Kd.str))).snd (Int.toNat
  y_2.fst) (0 : Int) = (44 : Int)) == false) = true ∧ True) ∧ (decide (List.getD (List.getD x.fst (Int.toNat y.fst) (Kd.dft (Kd.pair (Kd.int IntKind.i64) Kd.str))).snd (Int.toNat y_2.fst) (0
  : Int) = (44 : Int)) = false → (decide (List.getD (List.getD x.fst (Int.toNat y.fst) (Kd.dft (Kd.pair (Kd.int IntKind.i64) Kd.str))).snd (Int.toNat y_2.fst) (0 : Int) = (44 : Int)) ==
  false) = true) ∧ ((bif decide (List.getD (List.getD x.fst (Int.toNat y.fst) (Kd.dft (Kd.pair (Kd.int IntKind.i64) Kd.str))).snd (Int.toNat y_2.fst) (0 : Int) = (44 : Int)) then true else
  decide (List.getD (List.getD x.fst (Int.toNat y.fst) (Kd.dft (Kd.pair (Kd.int IntKind.i64) Kd.str))).snd (Int.toNat y_2.fst) (0 : Int) = (92 : Int))) = true → List.length y_2.snd.fst + (1 :
  Nat) ≤ (9223372036854775807 : Nat) ∧ List.getD (List.getD x.fst (Int.toNat y.fst) (Kd.dft (Kd.pair (Kd.int IntKind.i64) Kd.str))).snd (Int.toNat y_2.fst) (0 : Int) = List.getD (List.getD
  x.fst (Int.toNat y.fst) (Kd.dft (Kd.pair (Kd.int IntKind.i64) Kd.str))).snd (Int.toNat y_2.fst) (0 : Int) ∧ Value.bool true = Value.bool true ∧ y_2.fst = y_2.fst ∧ Value.bool true =
  Value.bool true ∧ y.fst = y.fst ∧ Value.bool false = Value.bool false ∧ (0 : Int) = (0 : Int) ∧ bs { data := #[] } = bs { data := #[] } ∧ x.fst = x.fst ∧ J (y_2.snd.fst ++ bs { data :=
  #[(92 : UInt8)] }, ()) ()) ∧ ((bif decide (List.getD (List.getD x.fst (Int.toNat y.fst) (Kd.dft (Kd.pair (Kd.int IntKind.i64) Kd.str))).snd (Int.toNat y_2.fst) (0 : Int) = (44 : Int)) then
  true else decide (List.getD (List.getD x.fst (Int.toNat y.fst) (Kd.dft (Kd.pair (Kd.int IntKind.i64) Kd.str))).snd (Int.toNat y_2.fst) (0 : Int) = (92 : Int))) = false → List.getD
  (List.getD x.fst (Int.toNat y.fst) (Kd.dft (Kd.pair (Kd.int IntKind.i64) Kd.str))).snd (Int.toNat y_2.fst) (0 : Int) = List.getD (List.getD x.fst (Int.toNat y.fst) (Kd.dft (Kd.pair (Kd.int
  IntKind.i64) Kd.str))).snd (Int.toNat y_2.fst) (0 : Int) ∧ Value.bool true = Value.bool true ∧ y_2.fst = y_2.fst ∧ Value.bool true = Value.bool true ∧ y.fst = y.fst ∧ Value.bool false =
  Value.bool false ∧ (0 : Int) = (0 : Int) ∧ bs { data := #[] } = bs { data := #[] } ∧ x.fst = x.fst ∧ J (y_2.snd.fst, ()) ())) ∧ ∀ (u : List Int × Unit) (z : Unit), Kd.wf Kd.str u.fst ∧ True
  → True → J u z → List.length u.fst + List.length [List.getD (List.getD x.fst (Int.toNat y.fst) (Kd.dft (Kd.pair (Kd.int IntKind.i64) Kd.str))).snd (Int.toNat y_2.fst) (0 : Int)] ≤
  (9223372036854775807 : Nat) ∧ Value.bool true = Value.bool true ∧ y.fst = y.fst ∧ Value.bool false = Value.bool false ∧ (0 : Int) = (0 : Int) ∧ bs { data := #[] } = bs { data := #[] } ∧
  x.fst = x.fst ∧ I_1 (IntKind.wrap IntKind.i64 (y_2.fst + (1 : Int)), u.fst ++ [List.getD (List.getD x.fst (Int.toNat y.fst) (Kd.dft (Kd.pair (Kd.int IntKind.i64) Kd.str))).snd (Int.toNat
  y_2.fst) (0 : Int)], ()) () ∧ μ_1 (IntKind.wrap IntKind.i64 (y_2.fst + (1 : Int)), u.fst ++ [List.getD (List.getD x.fst (Int.toNat y.fst) (Kd.dft (Kd.pair (Kd.int IntKind.i64) Kd.str))).snd
  (Int.toNat y_2.fst) (0 : Int)], ()) () < μ_1 y_2 z_2) ∧ (decide (y_2.fst < (↑(List.length (List.getD x.fst (Int.toNat y.fst) (Kd.dft (Kd.pair (Kd.int IntKind.i64) Kd.str))).snd) : Int)) =
  false → Value.bool false = Value.bool false ∧ (0 : Int) = (0 : Int) ∧ bs { data := #[] } = bs { data := #[] } ∧ x.fst = x.fst ∧ I (IntKind.wrap IntKind.i64 (y.fst + (1 : Int)), y_2.snd.fst,
  ()) () ∧ μ (IntKind.wrap IntKind.i64 (y.fst + (1 : Int)), y_2.snd.fst, ()) () < μ y z)) ∧ True) ∧ (decide (y.fst < (↑(List.length x.fst) : Int)) = false → (y.snd.fst, (0 : Int)) = TextN
  x.fst))) ∧ True
theorem e28 : t28 = Con.vc c_r12_Text GL (mkEnv ty [(30, conSem c_r12_May), (40, conSem c_r12_Label)] [] [] [0, 2, 3, 4, 5, 6, 7, 10, 14, 18, 37, 52]) {joins := [9,16]} Tryd.f28.ntmps Tryd.f28.results.toList (bodyOf Tryd.f28) := by kernel_rfl
theorem k28 : t28 := by
  unfold t28
  rintro ⟨l, _⟩ hx hp
  have hp2 := hp
  obtain ⟨h1, h2⟩ := hp2
  simp only at h1 h2
  try dsimp +instances only [dft_int, dft_sl, dft_str]
  simp only [true_and, and_true, eq_self_iff_true, implies_true, reduceCtorEq, false_implies, true_implies, decide_eq_true_eq, decide_eq_false_iff_not, beq_self_eq_true, Bool.not_eq_true', ne_eq, Decidable.not_not, List.nil_append, List.length_singleton, List.length_cons, List.length_nil, Nat.zero_add, Nat.add_zero, Nat.mul_one, and_self, beq_iff_eq, Bool.not_true, Bool.not_false, Bool.not_eq_false', Bool.cond_false_right, Bool.and_eq_true, imp_self, Bool.not_eq_true, Bool.cond_true_left, Bool.or_eq_true]
  simp only [adft_eq3]
  rw [show bs { data := #[44] } = [44] by decide, show bs { data := #[61] } = [61] by decide, show bs { data := #[92] } = [92] by decide, bs_nil]
  refine ⟨⟨h1, h2⟩, ?_⟩
  rintro ⟨m, _⟩ _ em
  simp only at em ⊢
  refine ⟨fun hm => by rw [TextN, if_neg (by rw [← em, hm]; decide)], fun hm => ?_⟩
  subst em
  have hT : TextN l = (textN l, 0) := by rw [TextN, if_pos hm]
  obtain ⟨l16, hA⟩ := mayN_args hm
  refine ⟨fun y _ => 0 ≤ y.1 ∧ y.1 ≤ l.length ∧ y.2.1 = txtN l y.1.toNat, fun y _ => ((l.length : Int) - y.1).toNat, ⟨Int.le_refl 0, by simp only; omega, rfl⟩, ?_⟩
  rintro ⟨i, t, _⟩ _ _ ⟨i0, i1, et⟩
  simp only at i0 i1 et ⊢
  refine ⟨fun hlt => ?_, fun hge => by rw [hT, et, txtN_all (by omega)]⟩
  have hlen := txtN_len hA i.toNat (by omega)
  rw [← et] at hlen
  have hmem := mem_getD adft l i.toNat (by omega)
  have hl2 := label_len (l.getD i.toNat adft).1
  have hv := mayA_len (hA _ hmem)
  have hst := txtN_step (l := l) (i := i.toNat) (by omega)
  rw [← et] at hst
  refine ⟨fun u _ => u.1 = t ++ (if i.toNat = 0 then [] else [44]), ⟨fun hi => ⟨by omega, by rw [if_neg (by omega)]⟩, fun hi => by rw [if_pos (by omega), List.append_nil]⟩, ?_⟩
  rintro ⟨u, _⟩ _ _ eu
  simp only at eu ⊢
  have hu : u.length ≤ t.length + 1 := by rw [eu, List.length_append]; split <;> simp
  refine ⟨⟨i0, hlt⟩, ?_⟩
  rintro ⟨w, _⟩ _ ew
  simp only at ew ⊢
  subst ew
  refine ⟨by omega, by rw [List.length_append]; omega, ?_⟩
  refine ⟨fun y _ => 0 ≤ y.1 ∧ y.1 ≤ (l.getD i.toNat adft).2.length ∧ y.2.1 = u ++ labelK (l.getD i.toNat adft).1 ++ [61] ++ escD ((l.getD i.toNat adft).2.take y.1.toNat), fun y _ => (((l.getD i.toNat adft).2.length : Int) - y.1).toNat, ⟨Int.le_refl 0, by simp only; omega, by simp [escD]⟩, ?_⟩
  rintro ⟨k, q, _⟩ _ _ ⟨k0, k1, eq⟩
  simp only at k0 k1 eq ⊢
  have hql : q.length ≤ 3000 := by
    have := esc_len ((l.getD i.toNat adft).2.take k.toNat)
    rw [List.length_take] at this
    rw [eq]
    simp only [List.length_append, List.length_singleton]
    omega
  refine ⟨⟨i0, hlt⟩, fun hk => ⟨⟨i0, hlt⟩, ⟨k0, hk⟩, ?_⟩, fun hk => ?_⟩
  · have hts : escD ((l.getD i.toNat adft).2.take (k.toNat + 1)) = escD ((l.getD i.toNat adft).2.take k.toNat) ++ (if (l.getD i.toNat adft).2.getD k.toNat 0 = 44 ∨ (l.getD i.toNat adft).2.getD k.toNat 0 = 92 then [92, (l.getD i.toNat adft).2.getD k.toNat 0] else [(l.getD i.toNat adft).2.getD k.toNat 0]) := by
      rw [take_snoc (l.getD i.toNat adft).2 k.toNat (by omega), esc_snoc]
    refine ⟨fun u2 _ => u2.1 = q ++ (if (l.getD i.toNat adft).2.getD k.toNat 0 = 44 ∨ (l.getD i.toNat adft).2.getD k.toNat 0 = 92 then [92] else []), ⟨fun hc => ⟨by omega, by rw [if_pos hc]⟩, fun hc => ?_⟩, ?_⟩
    · rw [Bool.or_eq_false_iff] at hc
      rw [if_neg (fun h => h.elim (of_decide_eq_false hc.1) (of_decide_eq_false hc.2)), List.append_nil]
    · rintro ⟨u2, _⟩ _ _ eu2
      simp only at eu2 ⊢
      have hu2 : u2.length ≤ q.length + 1 := by rw [eu2, List.length_append]; split <;> simp
      rw [wrapK (k + 1) (by omega) (by omega)]
      refine ⟨by omega, ⟨by omega, by omega, ?_⟩, by omega⟩
      rw [show (k + 1).toNat = k.toNat + 1 by omega, hts, eu2, eq]
      split <;> simp
  · rw [wrapK (i + 1) (by omega) (by omega)]
    refine ⟨⟨by omega, by omega, ?_⟩, by omega⟩
    rw [show (i + 1).toNat = i.toNat + 1 by omega, hst, eq, eu, List.take_of_length_le (by omega), attrT]
    simp
theorem h28 : c_r12_Text.ok Tryd.prog GL 28 := con_ok (H := {joins := [9,16]}) (mkEnv_ok (gl := GL) (l := [(30, conSem c_r12_May), (40, conSem c_r12_Label)]) (q := []) (d := []) _ tyOk (by kernel_rfl) ⟨h30.call, h40.call, trivial⟩ trivial trivial) (by kernel_rfl) (by kernel_rfl) (Eq.mp e28 k28)

def t22 : Prop :=
  ∀ (x : List Int × Unit), Kd.wf Kd.str x.fst ∧ True → List.length x.fst ≤ (10000000 : Nat) → ∃ (I : Int × Int × Unit → List (List Int) × Unit → Prop), ∃ (μ : Int × Int × Unit → List (List
  Int) × Unit → Nat), (Value.slice none (0 : Nat) (0 : Nat) = Value.slice none (0 : Nat) (0 : Nat) ∧ x.fst = x.fst ∧ I ((0 : Int), (0 : Int), ()) ([], ())) ∧ ∀ (y : Int × Int × Unit) (z :
  List (List Int) × Unit), Kd.wf (Kd.int IntKind.i64) y.fst ∧ Kd.wf (Kd.int IntKind.i64) y.snd.fst ∧ True → Kd.wf (Kd.sl Kd.str) z.fst ∧ True → I y z → (decide (y.fst < (↑(List.length x.fst)
  : Int)) = true → ((0 : Int) ≤ y.fst ∧ y.fst < (↑(List.length x.fst) : Int)) ∧ (decide (List.getD x.fst (Int.toNat y.fst) (0 : Int) = (92 : Int)) = true → Value.slice none (0 : Nat) (0 :
  Nat) = Value.slice none (0 : Nat) (0 : Nat) ∧ x.fst = x.fst ∧ I (IntKind.wrap IntKind.i64 (y.fst + (2 : Int)), y.snd.fst, ()) (z.fst, ()) ∧ μ (IntKind.wrap IntKind.i64 (y.fst + (2 : Int)),
  y.snd.fst, ()) (z.fst, ()) < μ y z) ∧ (decide (List.getD x.fst (Int.toNat y.fst) (0 : Int) = (92 : Int)) = false → ((0 : Int) ≤ y.fst ∧ y.fst < (↑(List.length x.fst) : Int)) ∧ (decide
  (List.getD x.fst (Int.toNat y.fst) (0 : Int) = (44 : Int)) = true → ((0 : Int) ≤ y.snd.fst ∧ y.snd.fst ≤ y.fst ∧ y.fst ≤ (↑(List.length x.fst) : Int)) ∧ (0 : Nat) < (1 : Nat) ∧ (List.length
  z.fst + List.length [List.drop (Int.toNat y.snd.fst) (List.take (Int.toNat y.fst) x.fst)]) * (16 : Nat) ≤ (140737488355328 : Nat) ∧ List.length z.fst + List.length [List.drop (Int.toNat
  y.snd.fst) (List.take (Int.toNat y.fst) x.fst)] ≤ (9223372036854775807 : Nat) ∧ Value.slice none (0 : Nat) (0 : Nat) = Value.slice none (0 : Nat) (0 : Nat) ∧ x.fst = x.fst ∧ I (IntKind.wrap
  IntKind.i64 (y.fst + (1 : Int)), IntKind.wrap IntKind.i64 (y.fst + (1 : Int)), ()) (z.fst ++ [List.drop (Int.toNat y.snd.fst) (List.take (Int.toNat y.fst) x.fst)], ()) ∧ μ (IntKind.wrap
  IntKind.i64 (y.fst + (1 : Int)), IntKind.wrap IntKind.i64 (y.fst + (1 : Int)), ()) (z.fst ++ [List.drop (Int.toNat y.snd.fst) (List.take (Int.toNat y.fst) x.fst)], ()) < μ y z) ∧ (decide
  (List.getD x.fst (Int.toNat y.fst) (0 : Int) = (44 : Int)) = false → Value.slice none (0 : Nat) (0 : Nat) = Value.slice none (0 : Nat) (0 : Nat) ∧ x.fst = x.fst ∧ I (IntKind.wrap
  IntKind.i64 (y.fst + (1 : Int)), y.snd.fst, ()) (z.fst, ()) ∧ μ (IntKind.wrap IntKind.i64 (y.fst + (1 : Int)), y.snd.fst, ()) (z.fst, ()) < μ y z))) ∧ (decide (y.fst < (↑(List.length x.fst)
  : Int)) = false → ((0 : Int) ≤ y.snd.fst ∧ y.snd.fst ≤ (↑(List.length x.fst) : Int)) ∧ (0 : Nat) < (1 : Nat) ∧ (List.length z.fst + List.length [List.drop (Int.toNat y.snd.fst) x.fst]) *
  (16 : Nat) ≤ (140737488355328 : Nat) ∧ List.length z.fst + List.length [List.drop (Int.toNat y.snd.fst) x.fst] ≤ (9223372036854775807 : Nat) ∧ z.fst ++ [List.drop (Int.toNat y.snd.fst)
  x.fst] = partsE x.fst)
theorem e22 : t22 = Con.vc c_r12_Parts GL (mkEnv ty [] [] [] [0, 2, 3, 4, 5, 9, 13, 19]) {} Tryd.f22.ntmps Tryd.f22.results.toList (bodyOf Tryd.f22) := by kernel_rfl
theorem k22 : t22 := by
  unfold t22
  rintro ⟨s, _⟩ hx hp
  have hp : s.length ≤ 10000000 := hp
  try dsimp +instances only [dft_int, dft_sl, dft_str]
  simp only [true_and, and_true, eq_self_iff_true, implies_true, reduceCtorEq, false_implies, true_implies, decide_eq_true_eq, decide_eq_false_iff_not, beq_self_eq_true, Bool.not_eq_true', ne_eq, Decidable.not_not, List.nil_append, List.length_singleton, List.length_cons, List.length_nil, Nat.zero_add, Nat.add_zero, Nat.mul_one, and_self, beq_iff_eq, Bool.not_true, Bool.not_false, Bool.not_eq_false', Bool.cond_false_right, Bool.and_eq_true, imp_self, Bool.not_eq_true, Bool.cond_true_left, Bool.or_eq_true]
  refine ⟨fun y z => 0 ≤ y.1 ∧ y.1 ≤ s.length + 1 ∧ 0 ≤ y.2.1 ∧ y.2.1 ≤ y.1 ∧ y.2.1 ≤ s.length ∧ (z.1 : List (List Int)).length ≤ y.1 ∧ partsE s = z.1 ++ pcs s y.2.1.toNat y.1.toNat, fun y _ => ((s.length : Int) + 1 - y.1).toNat, ⟨Int.le_refl 0, by simp only; omega, Int.le_refl 0, Int.le_refl 0, by simp only; omega, by simp, rfl⟩, ?_⟩
  rintro ⟨i, f, _⟩ ⟨z, _⟩ _ _ ⟨i0, i1, f0, f1, f2, hz, e⟩
  simp only at i0 i1 f0 f1 f2 hz e ⊢
  refine ⟨fun hlt => ⟨⟨i0, hlt⟩, fun hc => ?_, fun hc => ⟨⟨i0, hlt⟩, fun h4 => ?_, fun h4 => ?_⟩⟩, fun hge => ?_⟩
  · rw [wrapK (i + 2) (by omega) (by omega)]
    refine ⟨⟨by omega, by omega, f0, by omega, f2, by omega, ?_⟩, by omega⟩
    rw [e, pcs_two (by omega) (by omega) hc, show i.toNat + 2 = (i + 2).toNat by omega]
  · rw [wrapK (i + 1) (by omega) (by omega)]
    refine ⟨⟨f0, f1, by omega⟩, by decide, by omega, by omega, ⟨by omega, by omega, by omega, by omega, by omega, by rw [List.length_append, List.length_singleton]; omega, ?_⟩, by omega⟩
    rw [e, pcs_comma (by omega) h4, show i.toNat + 1 = (i + 1).toNat by omega]
    simp
  · rw [wrapK (i + 1) (by omega) (by omega)]
    refine ⟨⟨by omega, by omega, f0, by omega, f2, by omega, ?_⟩, by omega⟩
    rw [e, pcs_one (by omega) (by omega) h4 hc, show i.toNat + 1 = (i + 1).toNat by omega]
  · refine ⟨⟨f0, f2⟩, by decide, by omega, by omega, ?_⟩
    rw [e, pcs_end (by omega)]
theorem h22 : c_r12_Parts.ok Tryd.prog GL 22 := con_ok (H := {}) (mkEnv_ok (gl := GL) (l := []) (q := []) (d := []) _ tyOk (by kernel_rfl) trivial trivial trivial) (by kernel_rfl) (by kernel_rfl) (Eq.mp e22 k22)

end Go.Proofs.YtcaekpbmmbfeiaaDoor
end
