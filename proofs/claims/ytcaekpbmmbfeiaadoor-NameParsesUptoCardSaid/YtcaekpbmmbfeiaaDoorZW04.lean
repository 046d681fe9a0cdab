/- Texts of a verified walk, led together: NampA, NampW, Namp2A, Namp2W, Law12pA, Law12pW, Glok12A, Glok12W. -/
import Derived.Test.YtcaekpbmmbfeiaaDoorZW03
import Derived.Test.YtcaekpbmmbfeiaaDoorZV08
import Derived.Test.YtcaekpbmmbfeiaaDoorRows
set_option linter.unusedVariables false
set_option linter.unusedSimpArgs false
section
/- Contracts. -/
namespace Go.Proofs.YtcaekpbmmbfeiaaDoor
open Go Go.Vc Go.Pl Go.Proofs
def c_name_plain : Con := { args := [.dat .str], res := [.dat .str, .dat .bool], pre := fun x => x.1.length ≤ 1000000000, post := fun x y => (y.1, y.2.1) = PlainD x.1 }
def c_name_typeOf : Con := { args := [.dat .str], res := [.dat I64], pre := fun _ => True, post := fun x y => y.1 = typK x.1 }
def c_name_Parse : Con := { args := [.dat .str], res := [.own 56 AT, .dat I64], pre := fun x => x.1.length ≤ 10000000, post := fun x y => parN x.1 y.1 y.2.1 = true }
def c_r12_Label : Con := { args := [.dat I64], res := [.dat .str], pre := fun _ => True, post := fun x y => y.1 = labelK x.1 }
def c_r12_MayAttr : Con := { args := [.dat AT], res := [.dat .bool], pre := fun x => x.1.2.length ≤ 100000000, post := fun x y => y.1 = mayA x.1 }
def c_r12_May : Con := { args := [.dat (.sl AT)], res := [.dat .bool], pre := fun x => x.1.length ≤ 1000000000 ∧ ∀ a ∈ x.1, a.2.length ≤ 100000000, post := fun x y => y.1 = mayN x.1 }
def c_r12_Text : Con := { args := [.dat (.sl AT)], res := [.dat .str, .dat I64], pre := fun x => x.1.length ≤ 1000000000 ∧ ∀ a ∈ x.1, a.2.length ≤ 100000000, post := fun x y => (y.1, y.2.1) = TextN x.1 }
def c_r12_Parts : Con := { args := [.dat .str], res := [.own 9 .str], pre := fun x => x.1.length ≤ 10000000, post := fun x y => y.1 = partsE x.1 }
def c_r12_Parse : Con := { args := [.dat .str], res := [.own 56 AT, .dat I64], pre := fun x => x.1.length ≤ 10000000, post := fun x y => parN x.1 y.1 y.2.1 = true }

end Go.Proofs.YtcaekpbmmbfeiaaDoor
end
section
/- Walks. -/
namespace Go.Proofs.YtcaekpbmmbfeiaaDoor
open Go Go.Vc Go.Pl Go.Proofs
set_option linter.unusedVariables false
set_option linter.unusedSimpArgs false
theorem adft_eq3 : Kd.dft (Kd.pair (Kd.int IntKind.i64) Kd.str) = adft := rfl
noncomputable def i41 : CallSem → CallSem := vcSeq (mkEnv ty [] [] [] [0, 1, 3, 4, 8, 13, 14, 18, 26]) {} Tryd.f41.ntmps Tryd.f41.results.toList (bodyOf Tryd.f41)
theorem i41_ok : SeqOk Tryd.prog GL 41 i41 := seq_ok {} (mkEnv_ok (gl := GL) (l := []) (q := []) (d := []) _ tyOk (by kernel_rfl) trivial trivial trivial) (by kernel_rfl) (by kernel_rfl)

noncomputable def i21 : CallSem := vcFn (mkEnv ty [] [] [] [0, 1, 2]) {} Tryd.f21.ntmps Tryd.f21.results.toList (bodyOf Tryd.f21)
theorem i21_ok : CallOk Tryd.prog GL 21 i21 := inl_ok {} (mkEnv_ok (gl := GL) (l := []) (q := []) (d := []) _ tyOk (by kernel_rfl) trivial trivial trivial) (by kernel_rfl) (by kernel_rfl)

def t37 : Prop :=
  ∀ (x : List Int × Unit), Kd.wf Kd.str x.fst ∧ True → List.length x.fst ≤ (1000000000 : Nat) → ∃ (I : Int × Bool × List Int × Unit → List Int × Unit → Prop), ∃ (μ : Int × Bool × List Int ×
  Unit → List Int × Unit → Nat), (x.fst = x.fst ∧ I ((0 : Int), false, bs { data := #[] }, ()) ([], ())) ∧ ∀ (y : Int × Bool × List Int × Unit) (z : List Int × Unit), Kd.wf (Kd.int
  IntKind.i64) y.fst ∧ Kd.wf Kd.bool y.snd.fst ∧ Kd.wf Kd.str y.snd.snd.fst ∧ True → Kd.wf (Kd.sl (Kd.int IntKind.u8)) z.fst ∧ True → I y z → (decide (y.fst < (↑(List.length x.fst) : Int)) =
  true → ((0 : Int) ≤ y.fst ∧ y.fst < (↑(List.length x.fst) : Int)) ∧ (decide (List.getD x.fst (Int.toNat y.fst) (0 : Int) = (92 : Int)) = true → (decide (IntKind.wrap IntKind.i64 (y.fst + (1
  : Int)) = (↑(List.length x.fst) : Int)) = false → True) ∧ (decide (IntKind.wrap IntKind.i64 (y.fst + (1 : Int)) = (↑(List.length x.fst) : Int)) = false → True) ∧ (decide (IntKind.wrap
  IntKind.i64 (y.fst + (1 : Int)) = (↑(List.length x.fst) : Int)) = false → (decide (IntKind.wrap IntKind.i64 (y.fst + (1 : Int)) = (↑(List.length x.fst) : Int)) == false) = true ∧ (decide
  (IntKind.wrap IntKind.i64 (y.fst + (1 : Int)) = (↑(List.length x.fst) : Int)) == false) = true ∧ ((0 : Int) ≤ IntKind.wrap IntKind.i64 (y.fst + (1 : Int)) ∧ IntKind.wrap IntKind.i64 (y.fst
  + (1 : Int)) < (↑(List.length x.fst) : Int)) ∧ True) ∧ (decide (IntKind.wrap IntKind.i64 (y.fst + (1 : Int)) = (↑(List.length x.fst) : Int)) = false → (decide (IntKind.wrap IntKind.i64
  (y.fst + (1 : Int)) = (↑(List.length x.fst) : Int)) == false) = true ∧ True) ∧ (decide (IntKind.wrap IntKind.i64 (y.fst + (1 : Int)) = (↑(List.length x.fst) : Int)) = false → True) ∧
  ((decide (IntKind.wrap IntKind.i64 (y.fst + (1 : Int)) = (↑(List.length x.fst) : Int)) == false && decide (IntKind.wrap IntKind.i64 (y.fst + (1 : Int)) = (↑(List.length x.fst) : Int)) ==
  false) = true → decide (List.getD x.fst (Int.toNat (IntKind.wrap IntKind.i64 (y.fst + (1 : Int)))) (0 : Int) ≠ (92 : Int)) = true → True) ∧ ((decide (IntKind.wrap IntKind.i64 (y.fst + (1 :
  Int)) = (↑(List.length x.fst) : Int)) == false && decide (IntKind.wrap IntKind.i64 (y.fst + (1 : Int)) = (↑(List.length x.fst) : Int)) == false) = true → decide (List.getD x.fst (Int.toNat
  (IntKind.wrap IntKind.i64 (y.fst + (1 : Int)))) (0 : Int) ≠ (92 : Int)) = true → True) ∧ ((decide (IntKind.wrap IntKind.i64 (y.fst + (1 : Int)) = (↑(List.length x.fst) : Int)) == false &&
  decide (IntKind.wrap IntKind.i64 (y.fst + (1 : Int)) = (↑(List.length x.fst) : Int)) == false) = true → decide (List.getD x.fst (Int.toNat (IntKind.wrap IntKind.i64 (y.fst + (1 : Int)))) (0
  : Int) ≠ (92 : Int)) = true → (decide (IntKind.wrap IntKind.i64 (y.fst + (1 : Int)) = (↑(List.length x.fst) : Int)) == false && decide (IntKind.wrap IntKind.i64 (y.fst + (1 : Int)) =
  (↑(List.length x.fst) : Int)) == false && decide (List.getD x.fst (Int.toNat (IntKind.wrap IntKind.i64 (y.fst + (1 : Int)))) (0 : Int) ≠ (92 : Int)) == true) = true ∧ (decide (IntKind.wrap
  IntKind.i64 (y.fst + (1 : Int)) = (↑(List.length x.fst) : Int)) == false && decide (IntKind.wrap IntKind.i64 (y.fst + (1 : Int)) = (↑(List.length x.fst) : Int)) == false && decide
  (List.getD x.fst (Int.toNat (IntKind.wrap IntKind.i64 (y.fst + (1 : Int)))) (0 : Int) ≠ (92 : Int)) == true) = true ∧ ((0 : Int) ≤ IntKind.wrap IntKind.i64 (y.fst + (1 : Int)) ∧
  IntKind.wrap IntKind.i64 (y.fst + (1 : Int)) < (↑(List.length x.fst) : Int)) ∧ True) ∧ ((decide (IntKind.wrap IntKind.i64 (y.fst + (1 : Int)) = (↑(List.length x.fst) : Int)) == false &&
  decide (IntKind.wrap IntKind.i64 (y.fst + (1 : Int)) = (↑(List.length x.fst) : Int)) == false) = true → decide (List.getD x.fst (Int.toNat (IntKind.wrap IntKind.i64 (y.fst + (1 : Int)))) (0
  : Int) ≠ (92 : Int)) = true → (decide (IntKind.wrap IntKind.i64 (y.fst + (1 : Int)) = (↑(List.length x.fst) : Int)) == false && decide (IntKind.wrap IntKind.i64 (y.fst + (1 : Int)) =
  (↑(List.length x.fst) : Int)) == false && decide (List.getD x.fst (Int.toNat (IntKind.wrap IntKind.i64 (y.fst + (1 : Int)))) (0 : Int) ≠ (92 : Int)) == true) = true ∧ True) ∧ (decide
  (IntKind.wrap IntKind.i64 (y.fst + (1 : Int)) = (↑(List.length x.fst) : Int)) = false → (decide (IntKind.wrap IntKind.i64 (y.fst + (1 : Int)) = (↑(List.length x.fst) : Int)) == false &&
  decide (IntKind.wrap IntKind.i64 (y.fst + (1 : Int)) = (↑(List.length x.fst) : Int)) == false) = true ∧ (decide (List.getD x.fst (Int.toNat (IntKind.wrap IntKind.i64 (y.fst + (1 : Int))))
  (0 : Int) ≠ (92 : Int)) = true → (decide (IntKind.wrap IntKind.i64 (y.fst + (1 : Int)) = (↑(List.length x.fst) : Int)) == false && decide (IntKind.wrap IntKind.i64 (y.fst + (1 : Int)) =
  (↑(List.length x.fst) : Int)) == false && decide (List.getD x.fst (Int.toNat (IntKind.wrap IntKind.i64 (y.fst + (1 : Int)))) (0 : Int) ≠ (92 : Int)) == true) = true) ∧ True) ∧ (decide
  (IntKind.wrap IntKind.i64 (y.fst + (1 : Int)) = (↑(List.length x.fst) : Int)) = false → (decide (IntKind.wrap IntKind.i64 (y.fst + (1 : Int)) = (↑(List.length x.fst) : Int)) == false) =
  true) ∧ ((bif decide (IntKind.wrap IntKind.i64 (y.fst + (1 : Int)) = (↑(List.length x.fst) : Int)) then true else bif decide (List.getD x.fst (Int.toNat (IntKind.wrap IntKind.i64 (y.fst +
  (1 : Int)))) (0 : Int) ≠ (92 : Int)) then decide (List.getD x.fst (Int.toNat (IntKind.wrap IntKind.i64 (y.fst + (1 : Int)))) (0 : Int) ≠ (44 : Int)) else false) = true → (bs { data := #[]
  }, false) = PlainD x.fst) ∧ ((bif decide (IntKind.wrap IntKind.i64 (y.fst + (1 : Int)) = (↑(List.length x.fst) : Int)) then true else bif decide (List.getD x.fst (Int.toNat (IntKind.wrap
  IntKind.i64 (y.fst + (1 : Int)))) (0 : Int) ≠ (92 : Int)) then decide (List.getD x.fst (Int.toNat (IntKind.wrap IntKind.i64 (y.fst + (1 : Int)))) (0 : Int) ≠ (44 : Int)) else false) = false
  → ((0 : Int) ≤ IntKind.wrap IntKind.i64 (y.fst + (1 : Int)) ∧ IntKind.wrap IntKind.i64 (y.fst + (1 : Int)) < (↑(List.length x.fst) : Int)) ∧ (0 : Nat) < (1 : Nat) ∧ (List.length z.fst +
  List.length [List.getD x.fst (Int.toNat (IntKind.wrap IntKind.i64 (y.fst + (1 : Int)))) (0 : Int)]) * (1 : Nat) ≤ (140737488355328 : Nat) ∧ List.length z.fst + List.length [List.getD x.fst
  (Int.toNat (IntKind.wrap IntKind.i64 (y.fst + (1 : Int)))) (0 : Int)] ≤ (9223372036854775807 : Nat) ∧ x.fst = x.fst ∧ I (IntKind.wrap IntKind.i64 (IntKind.wrap IntKind.i64 (y.fst + (1 :
  Int)) + (1 : Int)), y.snd.fst, y.snd.snd.fst, ()) (z.fst ++ [List.getD x.fst (Int.toNat (IntKind.wrap IntKind.i64 (y.fst + (1 : Int)))) (0 : Int)], ()) ∧ μ (IntKind.wrap IntKind.i64
  (IntKind.wrap IntKind.i64 (y.fst + (1 : Int)) + (1 : Int)), y.snd.fst, y.snd.snd.fst, ()) (z.fst ++ [List.getD x.fst (Int.toNat (IntKind.wrap IntKind.i64 (y.fst + (1 : Int)))) (0 : Int)],
  ()) < μ y z)) ∧ (decide (List.getD x.fst (Int.toNat y.fst) (0 : Int) = (92 : Int)) = false → ((0 : Int) ≤ y.fst ∧ y.fst < (↑(List.length x.fst) : Int)) ∧ (0 : Nat) < (1 : Nat) ∧
  (List.length z.fst + List.length [List.getD x.fst (Int.toNat y.fst) (0 : Int)]) * (1 : Nat) ≤ (140737488355328 : Nat) ∧ List.length z.fst + List.length [List.getD x.fst (Int.toNat y.fst) (0
  : Int)] ≤ (9223372036854775807 : Nat) ∧ x.fst = x.fst ∧ I (IntKind.wrap IntKind.i64 (y.fst + (1 : Int)), y.snd.fst, y.snd.snd.fst, ()) (z.fst ++ [List.getD x.fst (Int.toNat y.fst) (0 :
  Int)], ()) ∧ μ (IntKind.wrap IntKind.i64 (y.fst + (1 : Int)), y.snd.fst, y.snd.snd.fst, ()) (z.fst ++ [List.getD x.fst (Int.toNat y.fst) (0 : Int)], ()) < μ y z)) ∧ (decide (y.fst <
  (↑(List.length x.fst) : Int)) = false → (z.fst, true) = PlainD x.fst)
theorem e37 : t37 = Con.vc c_name_plain GL (mkEnv ty [] [] [] [0, 2, 3, 4, 5, 9, 15, 33]) {} Tryd.f37.ntmps Tryd.f37.results.toList (bodyOf Tryd.f37) := by kernel_rfl
theorem k37 : t37 := by
  unfold t37
  rintro ⟨s, _⟩ hx hp
  have hp : s.length ≤ 1000000000 := hp
  try dsimp +instances only [dft_int, dft_sl, dft_str]
  simp only [true_and, and_true, eq_self_iff_true, implies_true, reduceCtorEq, false_implies, true_implies, decide_eq_true_eq, decide_eq_false_iff_not, beq_self_eq_true, Bool.not_eq_true', ne_eq, Decidable.not_not, List.nil_append, List.length_singleton, List.length_cons, List.length_nil, Nat.zero_add, Nat.add_zero, Nat.mul_one, and_self, beq_iff_eq, Bool.not_true, Bool.not_false, Bool.not_eq_false', Bool.cond_false_right, Bool.and_eq_true, imp_self, Bool.not_eq_true, Bool.cond_true_left, Bool.or_eq_true]
  rw [bs_nil]
  refine ⟨fun y z => 0 ≤ y.1 ∧ y.1 ≤ s.length ∧ (z.1 : List Int).length ≤ y.1 ∧ plainO s = (plainO (s.drop y.1.toNat)).map (z.1 ++ ·), fun y _ => ((s.length : Int) - y.1).toNat, ⟨Int.le_refl 0, by simp only; omega, by simp, by simp⟩, ?_⟩
  rintro ⟨i, q, t, _⟩ ⟨b, _⟩ _ _ ⟨i0, i1, hb, e⟩
  simp only at i0 i1 hb e ⊢
  refine ⟨fun hlt => ⟨⟨i0, hlt⟩, fun hc => ?_, fun hc => ?_⟩, fun hge => ?_⟩
  · rw [wrapK (i + 1) (by omega) (by omega)]
    rw [drop_cons s i.toNat (by omega), hc] at e
    refine ⟨fun h => ⟨h, h, by omega, by omega⟩, fun h h2 => ⟨⟨h, h2⟩, ⟨h, h2⟩, by omega, by omega⟩, fun h h2 => ⟨h, h2⟩, fun h => ⟨h, fun h2 => ⟨h, h2⟩⟩, fun h => ?_, fun h => ?_⟩
    · rw [plainD_none]
      rw [e]
      by_cases hl : i + 1 = s.length
      · rw [List.drop_of_length_le (by omega)]; rfl
      · have h := h.resolve_left hl
        rw [drop_cons s (i.toNat + 1) (by omega), show i.toNat + 1 = (i + 1).toNat by omega, plainO, if_pos rfl, if_neg (fun hd => hd.elim h.1 h.2)]
        rfl
    · simp only [Bool.or_eq_false_iff, decide_eq_false_iff_not, Bool.and_eq_false_iff, Decidable.not_not] at h
      rw [wrapK (i + 1 + 1) (by omega) (by omega)]
      refine ⟨⟨by omega, by omega⟩, by decide, by omega, by omega, ⟨by omega, by omega, by rw [List.length_append, List.length_singleton]; omega, ?_⟩, by omega⟩
      rw [drop_cons s (i.toNat + 1) (by omega), show i.toNat + 1 = (i + 1).toNat by omega, plainO, if_pos rfl, if_pos h.2] at e
      rw [e, show (i + 1).toNat + 1 = (i + 1 + 1).toNat by omega]
      cases plainO (s.drop (i + 1 + 1).toNat) <;> simp
  · rw [wrapK (i + 1) (by omega) (by omega)]
    refine ⟨⟨i0, hlt⟩, by decide, by omega, by omega, ⟨by omega, by omega, by rw [List.length_append, List.length_singleton]; omega, ?_⟩, by omega⟩
    rw [drop_cons s i.toNat (by omega), plain_one hc] at e
    rw [e, show i.toNat + 1 = (i + 1).toNat by omega]
    cases plainO (s.drop (i + 1).toNat) <;> simp
  · rw [List.drop_of_length_le (by omega)] at e
    rw [plainD_some (v := b) (by rw [e]; simp [plainO])]
theorem h37 : c_name_plain.ok Tryd.prog GL 37 := con_ok (H := {}) (mkEnv_ok (gl := GL) (l := []) (q := []) (d := []) _ tyOk (by kernel_rfl) trivial trivial trivial) (by kernel_rfl) (by kernel_rfl) (Eq.mp e37 k37)

def t38 : Prop :=
  ∀ (x : List Int × Unit), Kd.wf Kd.str x.fst ∧ True → True → ∃ (I : Int × Int × Unit → Unit → Prop), ∃ (μ : Int × Int × Unit → Unit → Nat), (x.fst = x.fst ∧ I ((0 : Int), (0 : Int), ()) ())
  ∧ ∀ (y : Int × Int × Unit) (z : Unit), Kd.wf (Kd.int IntKind.i64) y.fst ∧ Kd.wf (Kd.int IntKind.i64) y.snd.fst ∧ True → True → I y z → (decide (y.fst < (12 : Int)) = true → (decide (x.fst ≠
  bs { data := #[] }) = true → True) ∧ (decide (x.fst ≠ bs { data := #[] }) = true → (decide (x.fst ≠ bs { data := #[] }) == true) = true ∧ True ∧ (∀ (y_1 : List Int × Unit), Kd.wf Kd.str
  y_1.fst ∧ True → y_1.fst = labelK y.fst → (decide (y_1.fst = x.fst) = true → y.fst = typK x.fst) ∧ (decide (y_1.fst = x.fst) = false → x.fst = x.fst ∧ I (IntKind.wrap IntKind.i64 (y.fst +
  (1 : Int)), y.snd.fst, ()) () ∧ μ (IntKind.wrap IntKind.i64 (y.fst + (1 : Int)), y.snd.fst, ()) () < μ y z)) ∧ True) ∧ (decide (x.fst ≠ bs { data := #[] }) = !true → x.fst = x.fst ∧ I
  (IntKind.wrap IntKind.i64 (y.fst + (1 : Int)), y.snd.fst, ()) () ∧ μ (IntKind.wrap IntKind.i64 (y.fst + (1 : Int)), y.snd.fst, ()) () < μ y z)) ∧ (decide (y.fst < (12 : Int)) = false → (0 :
  Int) = typK x.fst)
theorem e38 : t38 = Con.vc c_name_typeOf GL (mkEnv ty [(53, conSem c_name_label)] [] [] [0, 2, 3, 4, 5, 14]) {} Tryd.f38.ntmps Tryd.f38.results.toList (bodyOf Tryd.f38) := by kernel_rfl
theorem k38 : t38 := by
  unfold t38
  rintro ⟨s, _⟩ hx hp
  try dsimp +instances only [dft_int, dft_sl, dft_str]
  simp only [true_and, and_true, eq_self_iff_true, implies_true, reduceCtorEq, false_implies, true_implies, decide_eq_true_eq, decide_eq_false_iff_not, beq_self_eq_true, Bool.not_eq_true', ne_eq, Decidable.not_not, List.nil_append, List.length_singleton, List.length_cons, List.length_nil, Nat.zero_add, Nat.add_zero, Nat.mul_one, and_self, beq_iff_eq, Bool.not_true, Bool.not_false, Bool.not_eq_false', Bool.cond_false_right, Bool.and_eq_true, imp_self, Bool.not_eq_true, Bool.cond_true_left, Bool.or_eq_true]
  rw [bs_nil]
  refine ⟨fun y _ => 0 ≤ y.1 ∧ y.1 ≤ 12 ∧ ∀ k : Int, 0 ≤ k → k < y.1 → s ≠ [] → labelK k ≠ s, fun y _ => (12 - y.1).toNat, ⟨Int.le_refl 0, by simp only; omega, fun k h0 h1 => by simp only at h1; omega⟩, ?_⟩
  rintro ⟨i, q, _⟩ _ _ ⟨i0, i1, h⟩
  simp only at i0 i1 h ⊢
  refine ⟨fun hlt => ?_, fun hge => ?_⟩
  · rw [wrapK (i + 1) (by omega) (by omega)]
    have step : (s ≠ [] → labelK i ≠ s) → (0 ≤ i + 1 ∧ i + 1 ≤ 12 ∧ ∀ k : Int, 0 ≤ k → k < i + 1 → s ≠ [] → labelK k ≠ s) := fun hn => ⟨by omega, by omega, fun k h0 h1 => by
      by_cases hk : k = i
      · subst hk; exact hn
      · exact h k h0 (by omega)⟩
    refine ⟨fun hs => ⟨hs, ?_⟩, fun hs => ⟨step fun hn => absurd hs hn, by omega⟩⟩
    rintro ⟨l, _⟩ _ el
    simp only at el ⊢
    subst el
    refine ⟨fun e => ?_, fun e => ⟨step fun _ => e, by omega⟩⟩
    rw [← e] at hs ⊢
    exact (typ_label hs).symm
  · by_cases h0 : typK s = 0
    · exact h0.symm
    · obtain ⟨k0, k1, k2, k3⟩ := typ_range h0
      exact absurd k2 (h (typK s) k0 (by omega) k3)
theorem h38 : c_name_typeOf.ok Tryd.prog GL 38 := con_ok (H := {}) (mkEnv_ok (gl := GL) (l := [(53, conSem c_name_label)]) (q := []) (d := []) _ tyOk (by kernel_rfl) ⟨h53.call, trivial⟩ trivial trivial) (by kernel_rfl) (by kernel_rfl) (Eq.mp e38 k38)

def t40 : Prop :=
  ∀ (x : Int × Unit), Kd.wf (Kd.int IntKind.i64) x.fst ∧ True → True → (decide (x.fst < (0 : Int)) = false → True) ∧ (decide (x.fst < (0 : Int)) = false → True) ∧ (decide (x.fst < (0 : Int))
  = false → (decide (x.fst < (0 : Int)) == false) = true ∧ True) ∧ (decide (x.fst < (0 : Int)) = false → (decide (x.fst < (0 : Int)) == false) = true ∧ (decide (x.fst < (0 : Int)) == false) =
  true ∧ True) ∧ (decide (x.fst < (0 : Int)) = false → (decide (x.fst < (0 : Int)) == false) = true) ∧ ((bif decide (x.fst < (0 : Int)) then true else decide ((↑(12 : Nat) : Int) ≤ x.fst)) =
  true → bs { data := #[] } = labelK x.fst) ∧ ((bif decide (x.fst < (0 : Int)) then true else decide ((↑(12 : Nat) : Int) ≤ x.fst)) = false → ((0 : Int) ≤ x.fst ∧ x.fst < (↑(12 : Nat) : Int))
  ∧ List.getD [bs { data := #[] }, bs { data := #[] }, bs { data := #[] }, bs { data := #[(67 : UInt8), (78 : UInt8)] }, bs { data := #[] }, bs { data := #[(83 : UInt8), (78 : UInt8)] }, bs {
  data := #[(67 : UInt8)] }, bs { data := #[(76 : UInt8)] }, bs { data := #[(83 : UInt8), (84 : UInt8)] }, bs { data := #[] }, bs { data := #[(79 : UInt8)] }, bs { data := #[(79 : UInt8), (85
  : UInt8)] }] (Int.toNat x.fst) (Kd.dft Kd.str) = labelK x.fst)
theorem e40 : t40 = Con.vc c_r12_Label GL (mkEnv ty [] [] [] [0, 2, 3, 12]) {} Tryd.f40.ntmps Tryd.f40.results.toList (bodyOf Tryd.f40) := by kernel_rfl
theorem k40 : t40 := by
  unfold t40
  rintro ⟨k, _⟩ hx hp
  try dsimp +instances only [dft_int, dft_sl, dft_str]
  simp only [true_and, and_true, eq_self_iff_true, implies_true, reduceCtorEq, false_implies, true_implies, decide_eq_true_eq, decide_eq_false_iff_not, beq_self_eq_true, Bool.not_eq_true', ne_eq, Decidable.not_not, List.nil_append, List.length_singleton, List.length_cons, List.length_nil, Nat.zero_add, Nat.add_zero, Nat.mul_one, and_self, beq_iff_eq, Bool.not_true, Bool.not_false, Bool.not_eq_false', Bool.cond_false_right, Bool.and_eq_true, imp_self, Bool.not_eq_true, Bool.cond_true_left, Bool.or_eq_true]
  rw [bs_nil, show bs { data := #[67, 78] } = [67, 78] by decide, show bs { data := #[83, 78] } = [83, 78] by decide, show bs { data := #[67] } = [67] by decide, show bs { data := #[76] } = [76] by decide, show bs { data := #[83, 84] } = [83, 84] by decide, show bs { data := #[79] } = [79] by decide, show bs { data := #[79, 85] } = [79, 85] by decide]
  refine ⟨fun h => (label_out (by omega)).symm, fun h => ?_⟩
  simp only [Bool.or_eq_false_iff, decide_eq_false_iff_not] at h
  exact ⟨⟨by omega, by omega⟩, labels12 (by omega) (by omega)⟩
theorem h40 : c_r12_Label.ok Tryd.prog GL 40 := con_ok (H := {}) (mkEnv_ok (gl := GL) (l := []) (q := []) (d := []) _ tyOk (by kernel_rfl) trivial trivial trivial) (by kernel_rfl) (by kernel_rfl) (Eq.mp e40 k40)

def t56 : Prop :=
  ∀ (x : (Int × List Int) × Unit), Kd.wf (Kd.pair (Kd.int IntKind.i64) Kd.str) x.fst ∧ True → List.length x.fst.snd ≤ (100000000 : Nat) → List.length [SV.dat (Kd.int IntKind.i64) x.fst.fst,
  SV.dat Kd.str x.fst.snd] ≤ (65536 : Nat) ∧ True ∧ (∀ (y : List Int × Unit), Kd.wf Kd.str y.fst ∧ True → y.fst = labelK x.fst.fst → (decide (y.fst = bs { data := #[] }) = false → True) ∧
  (decide (y.fst = bs { data := #[] }) = false → (decide (y.fst = bs { data := #[] }) == false) = true ∧ True) ∧ (decide (y.fst = bs { data := #[] }) = false → (decide (y.fst = bs { data :=
  #[] }) == false) = true ∧ True) ∧ (decide (y.fst = bs { data := #[] }) = false → (decide (y.fst = bs { data := #[] }) == false) = true ∧ True) ∧ (decide (y.fst = bs { data := #[] }) = false
  → (decide (y.fst = bs { data := #[] }) == false) = true) ∧ ((bif decide (y.fst = bs { data := #[] }) then true else decide ((↑(List.length x.fst.snd) : Int) < (1 : Int))) = false → True) ∧
  ((bif decide (y.fst = bs { data := #[] }) then true else decide ((↑(List.length x.fst.snd) : Int) < (1 : Int))) = false → ((bif decide (y.fst = bs { data := #[] }) then true else decide
  ((↑(List.length x.fst.snd) : Int) < (1 : Int))) == false) = true ∧ True) ∧ ((bif decide (y.fst = bs { data := #[] }) then true else decide ((↑(List.length x.fst.snd) : Int) < (1 : Int))) =
  false → ((bif decide (y.fst = bs { data := #[] }) then true else decide ((↑(List.length x.fst.snd) : Int) < (1 : Int))) == false) = true ∧ True) ∧ ((bif decide (y.fst = bs { data := #[] })
  then true else decide ((↑(List.length x.fst.snd) : Int) < (1 : Int))) = false → ((bif decide (y.fst = bs { data := #[] }) then true else decide ((↑(List.length x.fst.snd) : Int) < (1 :
  Int))) == false) = true ∧ True) ∧ ((bif decide (y.fst = bs { data := #[] }) then true else decide ((↑(List.length x.fst.snd) : Int) < (1 : Int))) = false → ((bif decide (y.fst = bs { data
  := #[] }) then true else decide ((↑(List.length x.fst.snd) : Int) < (1 : Int))) == false) = true) ∧ ((bif bif decide (y.fst = bs { data := #[] }) then true else decide ((↑(List.length
  x.fst.snd) : Int) < (1 : Int)) then true else decide ((64 : Int) < (↑(List.length x.fst.snd) : Int))) = false → True) ∧ ((bif bif decide (y.fst = bs { data := #[] }) then true else decide
  ((↑(List.length x.fst.snd) : Int) < (1 : Int)) then true else decide ((64 : Int) < (↑(List.length x.fst.snd) : Int))) = false → ((bif bif decide (y.fst = bs { data := #[] }) then true else
  decide ((↑(List.length x.fst.snd) : Int) < (1 : Int)) then true else decide ((64 : Int) < (↑(List.length x.fst.snd) : Int))) == false) = true ∧ True) ∧ ((bif bif decide (y.fst = bs { data
  := #[] }) then true else decide ((↑(List.length x.fst.snd) : Int) < (1 : Int)) then true else decide ((64 : Int) < (↑(List.length x.fst.snd) : Int))) = false → ((bif bif decide (y.fst = bs
  { data := #[] }) then true else decide ((↑(List.length x.fst.snd) : Int) < (1 : Int)) then true else decide ((64 : Int) < (↑(List.length x.fst.snd) : Int))) == false) = true ∧ List.length
  x.fst.snd ≤ (1000000000 : Nat) ∧ (∀ (y : Bool × Unit), Kd.wf Kd.bool y.fst ∧ True → y.fst = mayD (12 : Int) x.fst.snd → ((!y.fst) = true → false = mayA x.fst) ∧ ((!y.fst) = false → (decide
  (x.fst.fst = (5 : Int)) = true → List.length x.fst.snd ≤ (1000000000 : Nat) ∧ (∀ (y : Bool × Unit), Kd.wf Kd.bool y.fst ∧ True → y.fst = mayD (19 : Int) x.fst.snd → y.fst = mayA x.fst) ∧
  True) ∧ (decide (x.fst.fst = (5 : Int)) = false → (decide (x.fst.fst = (6 : Int)) = true → (decide ((↑(List.length x.fst.snd) : Int) = (2 : Int)) = true → True) ∧ (decide ((↑(List.length
  x.fst.snd) : Int) = (2 : Int)) = true → (decide ((↑(List.length x.fst.snd) : Int) = (2 : Int)) == true) = true ∧ True) ∧ (decide ((↑(List.length x.fst.snd) : Int) = (2 : Int)) = true →
  (decide ((↑(List.length x.fst.snd) : Int) = (2 : Int)) == true) = true ∧ ((0 : Int) ≤ (0 : Int) ∧ (0 : Int) < (↑(List.length x.fst.snd) : Int)) ∧ True) ∧ (decide ((↑(List.length x.fst.snd)
  : Int) = (2 : Int)) = true → (decide ((↑(List.length x.fst.snd) : Int) = (2 : Int)) == true) = true ∧ True) ∧ (decide ((↑(List.length x.fst.snd) : Int) = (2 : Int)) = true → (decide
  ((↑(List.length x.fst.snd) : Int) = (2 : Int)) == true) = true) ∧ ((bif decide ((↑(List.length x.fst.snd) : Int) = (2 : Int)) then decide ((65 : Int) ≤ List.getD x.fst.snd (0 : Nat) (0 :
  Int)) else false) = true → True) ∧ ((bif decide ((↑(List.length x.fst.snd) : Int) = (2 : Int)) then decide ((65 : Int) ≤ List.getD x.fst.snd (0 : Nat) (0 : Int)) else false) = true → ((bif
  decide ((↑(List.length x.fst.snd) : Int) = (2 : Int)) then decide ((65 : Int) ≤ List.getD x.fst.snd (0 : Nat) (0 : Int)) else false) == true) = true ∧ True) ∧ ((bif decide ((↑(List.length
  x.fst.snd) : Int) = (2 : Int)) then decide ((65 : Int) ≤ List.getD x.fst.snd (0 : Nat) (0 : Int)) else false) = true → ((bif decide ((↑(List.length x.fst.snd) : Int) = (2 : Int)) then
  decide ((65 : Int) ≤ List.getD x.fst.snd (0 : Nat) (0 : Int)) else false) == true) = true ∧ ((0 : Int) ≤ (0 : Int) ∧ (0 : Int) < (↑(List.length x.fst.snd) : Int)) ∧ True) ∧ ((bif decide
  ((↑(List.length x.fst.snd) : Int) = (2 : Int)) then decide ((65 : Int) ≤ List.getD x.fst.snd (0 : Nat) (0 : Int)) else false) = true → ((bif decide ((↑(List.length x.fst.snd) : Int) = (2 :
  Int)) then decide ((65 : Int) ≤ List.getD x.fst.snd (0 : Nat) (0 : Int)) else false) == true) = true ∧ True) ∧ ((bif decide ((↑(List.length x.fst.snd) : Int) = (2 : Int)) then decide ((65 :
  Int) ≤ List.getD x.fst.snd (0 : Nat) (0 : Int)) else false) = true → ((bif decide ((↑(List.length x.fst.snd) : Int) = (2 : Int)) then decide ((65 : Int) ≤ List.getD x.fst.snd (0 : Nat) (0 :
  Int)) else false) == true) = true) ∧ ((bif bif decide ((↑(List.length x.fst.snd) : Int) = (2 : Int)) then decide ((65 : Int) ≤ List.getD x.fst.snd (0 : Nat) (0 : Int)) else false then
  decide (List.getD x.fst.snd (0 : Nat) (0 : Int) ≤ (90 : Int)) else false) = true → True) ∧ ((bif bif decide ((↑(List.length x.fst.snd) : Int) = (2 : Int)) then decide ((65 : Int) ≤
  List.getD x.fst.snd (0 : Nat) (0 : Int)) else false then decide (List.getD x.fst.snd (0 : Nat) (0 : Int) ≤ (90 : Int)) else false) = true → ((bif bif decide ((↑(List.length x.fst.snd) :
  Int) = (2 : Int)) then decide ((65 : Int) ≤ List.getD x.fst.snd (0 : Nat) (0 : Int)) else false then decide (List.getD x.fst.snd (0 : Nat) (0 : Int) ≤ (90 : Int)) else false) == true) =
  true ∧ True) ∧ ((bif bif decide ((↑(List.length x.fst.snd) : Int) = (2 : Int)) then decide ((65 : Int) ≤ List.getD x.fst.snd (0 : Nat) (0 : Int)) else false then decide (List.getD x.fst.snd
  (0 : Nat) (0 : Int) ≤ (90 : Int)) else false) = true → ((bif bif decide ((↑(List.length x.fst.snd) : Int) = (2 : Int)) then decide ((65 : Int) ≤ List.getD x.fst.snd (0 : Nat) (0 : Int))
  else false then decide (List.getD x.fst.snd (0 : Nat) (0 : Int) ≤ (90 : Int)) else false) == true) = true ∧ ((0 : Int) ≤ (1 : Int) ∧ (1 : Int) < (↑(List.length x.fst.snd) : Int)) ∧ True) ∧
  ((bif bif decide ((↑(List.length x.fst.snd) : Int) = (2 : Int)) then decide ((65 : Int) ≤ List.getD x.fst.snd (0 : Nat) (0 : Int)) else false then decide (List.getD x.fst.snd (0 : Nat) (0 :
  Int) ≤ (90 : Int)) else false) = true → ((bif bif decide ((↑(List.length x.fst.snd) : Int) = (2 : Int)) then decide ((65 : Int) ≤ List.getD x.fst.snd (0 : Nat) (0 : Int)) else false then
  decide (List.getD x.fst.snd (0 : Nat) (0 : Int) ≤ (90 : Int)) else false) == true) = true ∧ True) ∧ ((bif bif decide ((↑(List.length x.fst.snd) : Int) = (2 : Int)) then decide ((65 : Int) ≤
  List.getD x.fst.snd (0 : Nat) (0 : Int)) else false then decide (List.getD x.fst.snd (0 : Nat) (0 : Int) ≤ (90 : Int)) else false) = true → ((bif bif decide ((↑(List.length x.fst.snd) :
  Int) = (2 : Int)) then decide ((65 : Int) ≤ List.getD x.fst.snd (0 : Nat) (0 : Int)) else false then decide (List.getD x.fst.snd (0 : Nat) (0 : Int) ≤ (90 : Int)) else false) == true) =
  true) ∧ ((bif bif bif decide ((↑(List.length x.fst.snd) : Int) = (2 : Int)) then decide ((65 : Int) ≤ List.getD x.fst.snd (0 : Nat) (0 : Int)) else false then decide (List.getD x.fst.snd (0
  : Nat) (0 : Int) ≤ (90 : Int)) else false then decide ((65 : Int) ≤ List.getD x.fst.snd (1 : Nat) (0 : Int)) else false) = true → True) ∧ ((bif bif bif decide ((↑(List.length x.fst.snd) :
  Int) = (2 : Int)) then decide ((65 : Int) ≤ List.getD x.fst.snd (0 : Nat) (0 : Int)) else false then decide (List.getD x.fst.snd (0 : Nat) (0 : Int) ≤ (90 : Int)) else false then decide
  ((65 : Int) ≤ List.getD x.fst.snd (1 : Nat) (0 : Int)) else false) = true → ((bif bif bif decide ((↑(List.length x.fst.snd) : Int) = (2 : Int)) then decide ((65 : Int) ≤ List.getD x.fst.snd
  (0 : Nat) (0 : Int)) else false then decide (List.getD x.fst.snd (0 : Nat) (0 : Int) ≤ (90 : Int)) else false then decide ((65 : Int) ≤ List.getD x.fst.snd (1 : Nat) (0 : Int)) else false)
  == true) = true ∧ True) ∧ ((bif bif bif decide ((↑(List.length x.fst.snd) : Int) = (2 : Int)) then decide ((65 : Int) ≤ List.getD x.fst.snd (0 : Nat) (0 : Int)) else false then decide
  (List.getD x.fst.snd (0 : Nat) (0 : Int) ≤ (90 : Int)) else false then decide ((65 : Int) ≤ List.getD x.fst.snd (1 : Nat) (0 : Int)) else false) = true → ((bif bif bif decide
  ((↑(List.length x.fst.snd) : Int) = (2 : Int)) then decide ((65 : Int) ≤ List.getD x.fst.snd (0 : Nat) (0 : Int)) else false then decide (List.getD x.fst.snd (0 : Nat) (0 : Int) ≤ (90 :
  Int)) else false then decide ((65 : Int) ≤ List.getD x.fst.snd (1 : Nat) (0 : Int)) else false) == true) = true ∧ ((0 : Int) ≤ (1 : Int) ∧ (1 : Int) < (↑(List.length x.fst.snd) : Int)) ∧
  True) ∧ ((bif bif bif decide ((↑(List.length x.fst.snd) : Int) = (2 : Int)) then decide ((65 : Int) ≤ List.getD x.fst.snd (0 : Nat) (0 : Int)) else false then decide (List.getD x.fst.snd (0
  : Nat) (0 : Int) ≤ (90 : Int)) else false then decide ((65 : Int) ≤ List.getD x.fst.snd (1 : Nat) (0 : Int)) else false) = true → ((bif bif bif decide ((↑(List.length x.fst.snd) : Int) = (2
  : Int)) then decide ((65 : Int) ≤ List.getD x.fst.snd (0 : Nat) (0 : Int)) else false then decide (List.getD x.fst.snd (0 : Nat) (0 : Int) ≤ (90 : Int)) else false then decide ((65 : Int) ≤
  List.getD x.fst.snd (1 : Nat) (0 : Int)) else false) == true) = true ∧ True) ∧ ((bif bif bif decide ((↑(List.length x.fst.snd) : Int) = (2 : Int)) then decide ((65 : Int) ≤ List.getD
  x.fst.snd (0 : Nat) (0 : Int)) else false then decide (List.getD x.fst.snd (0 : Nat) (0 : Int) ≤ (90 : Int)) else false then decide ((65 : Int) ≤ List.getD x.fst.snd (1 : Nat) (0 : Int))
  else false) = true → ((bif bif bif decide ((↑(List.length x.fst.snd) : Int) = (2 : Int)) then decide ((65 : Int) ≤ List.getD x.fst.snd (0 : Nat) (0 : Int)) else false then decide (List.getD
  x.fst.snd (0 : Nat) (0 : Int) ≤ (90 : Int)) else false then decide ((65 : Int) ≤ List.getD x.fst.snd (1 : Nat) (0 : Int)) else false) == true) = true) ∧ (bif bif bif bif decide
  ((↑(List.length x.fst.snd) : Int) = (2 : Int)) then decide ((65 : Int) ≤ List.getD x.fst.snd (0 : Nat) (0 : Int)) else false then decide (List.getD x.fst.snd (0 : Nat) (0 : Int) ≤ (90 :
  Int)) else false then decide ((65 : Int) ≤ List.getD x.fst.snd (1 : Nat) (0 : Int)) else false then decide (List.getD x.fst.snd (1 : Nat) (0 : Int) ≤ (90 : Int)) else false) = mayA x.fst) ∧
  (decide (x.fst.fst = (6 : Int)) = false → true = mayA x.fst)))) ∧ True) ∧ ((bif bif decide (y.fst = bs { data := #[] }) then true else decide ((↑(List.length x.fst.snd) : Int) < (1 : Int))
  then true else decide ((64 : Int) < (↑(List.length x.fst.snd) : Int))) = !false → false = mayA x.fst)) ∧ True
theorem e56 : t56 = Con.vc c_r12_MayAttr GL (mkEnv ty [(40, conSem c_r12_Label), (75, conSem c_r05_May)] [] [] [0, 1, 2, 24, 27, 33]) {} Tryd.f56.ntmps Tryd.f56.results.toList (bodyOf Tryd.f56) := by kernel_rfl
theorem k56 : t56 := by
  unfold t56
  rintro ⟨⟨k, v⟩, _⟩ hx hp
  have hp : v.length ≤ 100000000 := hp
  try dsimp +instances only [dft_int, dft_sl, dft_str]
  simp only [true_and, and_true, eq_self_iff_true, implies_true, reduceCtorEq, false_implies, true_implies, decide_eq_true_eq, decide_eq_false_iff_not, beq_self_eq_true, Bool.not_eq_true', ne_eq, Decidable.not_not, List.nil_append, List.length_singleton, List.length_cons, List.length_nil, Nat.zero_add, Nat.add_zero, Nat.mul_one, and_self, beq_iff_eq, Bool.not_true, Bool.not_false, Bool.not_eq_false', Bool.cond_false_right, Bool.and_eq_true, imp_self, Bool.not_eq_true, Bool.cond_true_left, Bool.or_eq_true]
  rw [bs_nil]
  refine ⟨by decide, ?_⟩
  rintro ⟨a, _⟩ _ ea
  simp only at ea ⊢
  subst ea
  have hv : v = [] ↔ v.length = 0 := ⟨fun h => by rw [h]; rfl, List.eq_nil_of_length_eq_zero⟩
  simp only [Bool.or_eq_false_iff, decide_eq_false_iff_not]
  refine ⟨fun h => ⟨h, by omega, ?_⟩, fun h => ?_⟩
  · have hM : mayA (k, v) = (mayD 12 v && (if k = 6 then capsD v && mayD 19 v else if k = 5 then mayD 19 v else true)) := by
      rw [mayA, decide_eq_true ⟨h.1.1, fun e => h.1.2 (by rw [hv.1 e]; decide), by simp only; omega⟩]; rfl
    rintro ⟨b, _⟩ _ eb
    simp only at eb ⊢
    rw [hM, ← eb]
    refine ⟨fun hb => by rw [hb]; rfl, fun hb => ?_⟩
    rw [hb]
    refine ⟨fun hk => ⟨by omega, ?_⟩, fun hk => ⟨fun hk6 => ⟨fun h => ⟨h, by decide, by omega⟩, fun h => ⟨h, by decide, by omega⟩, fun h => ⟨h, by decide, by omega⟩, fun h => ⟨h, by decide, by omega⟩, ?_⟩, fun hk6 => by rw [if_neg hk6, if_neg hk]; rfl⟩⟩
    · rintro ⟨d, _⟩ _ ed
      simp only at ed ⊢
      rw [if_neg (by omega), if_pos hk, ed]; rfl
    · rw [if_pos hk6, caps_prints v, Bool.true_and, Bool.eq_iff_iff, capsD]
      simp only [Bool.and_eq_true, decide_eq_true_eq]
      omega
  · have key : ¬ (labelK k ≠ [] ∧ v ≠ [] ∧ v.length ≤ 64) := by
      rintro ⟨h1, h2, h3⟩
      rcases h with (h | h) | h
      · exact h1 h
      · exact h2 (hv.2 (by omega))
      · omega
    rw [mayA]
    simp only
    rw [decide_eq_false key]; rfl
theorem h56 : c_r12_MayAttr.ok Tryd.prog GL 56 := con_ok (H := {}) (mkEnv_ok (gl := GL) (l := [(40, conSem c_r12_Label), (75, conSem c_r05_May)]) (q := []) (d := []) _ tyOk (by kernel_rfl) ⟨h40.call, h75.call, trivial⟩ trivial trivial) (by kernel_rfl) (by kernel_rfl) (Eq.mp e56 k56)

def t30 : Prop :=
  ∀ (x : List (Int × List Int) × Unit), Kd.wf (Kd.sl (Kd.pair (Kd.int IntKind.i64) Kd.str)) x.fst ∧ True → (List.length x.fst ≤ (1000000000 : Nat) ∧ ∀ (a : Int × List Int), a ∈ x.fst →
  List.length a.snd ≤ (100000000 : Nat)) → ∃ (I : Int × Bool × Unit → Unit → Prop), ∃ (μ : Int × Bool × Unit → Unit → Nat), (x.fst = x.fst ∧ I ((0 : Int), false, ()) ()) ∧ ∀ (y : Int × Bool ×
  Unit) (z : Unit), Kd.wf (Kd.int IntKind.i64) y.fst ∧ Kd.wf Kd.bool y.snd.fst ∧ True → True → I y z → (decide (y.fst < (↑(List.length x.fst) : Int)) = true → ((0 : Int) ≤ y.fst ∧ y.fst <
  (↑(List.length x.fst) : Int)) ∧ List.length (List.getD x.fst (Int.toNat y.fst) (Kd.dft (Kd.pair (Kd.int IntKind.i64) Kd.str))).snd ≤ (100000000 : Nat) ∧ (∀ (y_1 : Bool × Unit), Kd.wf
  Kd.bool y_1.fst ∧ True → y_1.fst = mayA (List.getD x.fst (Int.toNat y.fst) (Kd.dft (Kd.pair (Kd.int IntKind.i64) Kd.str))) → ((!y_1.fst) = true → false = mayN x.fst) ∧ ((!y_1.fst) = false →
  x.fst = x.fst ∧ I (IntKind.wrap IntKind.i64 (y.fst + (1 : Int)), y.snd.fst, ()) () ∧ μ (IntKind.wrap IntKind.i64 (y.fst + (1 : Int)), y.snd.fst, ()) () < μ y z)) ∧ True) ∧ (decide (y.fst <
  (↑(List.length x.fst) : Int)) = false → decide ((↑(List.length x.fst) : Int) ≤ (16 : Int)) = mayN x.fst)
theorem e30 : t30 = Con.vc c_r12_May GL (mkEnv ty [(56, conSem c_r12_MayAttr)] [] [] [0, 2, 3, 7, 15]) {} Tryd.f30.ntmps Tryd.f30.results.toList (bodyOf Tryd.f30) := by kernel_rfl
theorem k30 : t30 := by
  unfold t30
  rintro ⟨l, _⟩ hx hp
  obtain ⟨h1, h2⟩ := hp
  simp only at h1 h2
  try dsimp +instances only [dft_int, dft_sl, dft_str]
  simp only [true_and, and_true, eq_self_iff_true, implies_true, reduceCtorEq, false_implies, true_implies, decide_eq_true_eq, decide_eq_false_iff_not, beq_self_eq_true, Bool.not_eq_true', ne_eq, Decidable.not_not, List.nil_append, List.length_singleton, List.length_cons, List.length_nil, Nat.zero_add, Nat.add_zero, Nat.mul_one, and_self, beq_iff_eq, Bool.not_true, Bool.not_false, Bool.not_eq_false', Bool.cond_false_right, Bool.and_eq_true, imp_self, Bool.not_eq_true, Bool.cond_true_left, Bool.or_eq_true]
  simp only [adft_eq3]
  refine ⟨fun y _ => 0 ≤ y.1 ∧ y.1 ≤ l.length ∧ ∀ j, j < y.1.toNat → mayA (l.getD j adft) = true, fun y _ => ((l.length : Int) - y.1).toNat, ⟨Int.le_refl 0, by simp only; omega, fun j hj => by simp at hj⟩, ?_⟩
  rintro ⟨i, b, _⟩ _ _ ⟨i0, i1, i2⟩
  simp only at i0 i1 i2 ⊢
  refine ⟨fun hlt => ⟨⟨i0, hlt⟩, h2 _ (mem_getD adft l _ (by omega)), ?_⟩, fun hge => ?_⟩
  · rintro ⟨c, _⟩ _ ec
    simp only at ec ⊢
    rw [wrapK (i + 1) (by omega) (by omega)]
    refine ⟨fun hc => ?_, fun hc => ⟨⟨by omega, by omega, fun j hj => ?_⟩, by omega⟩⟩
    · rw [mayN, all_notA adft _ _ i.toNat (by omega) (ec.symm.trans hc), Bool.and_false]
    by_cases hji : j < i.toNat
    · exact i2 j hji
    · rw [show j = i.toNat by omega]; exact ec.symm.trans hc
  · rw [mayN, all_getA adft _ _ (fun j hj => i2 j (by omega)), Bool.and_true]
    exact decide_eq_decide.2 (by omega)
theorem h30 : c_r12_May.ok Tryd.prog GL 30 := con_ok (H := {}) (mkEnv_ok (gl := GL) (l := [(56, conSem c_r12_MayAttr)]) (q := []) (d := []) _ tyOk (by kernel_rfl) ⟨h56.call, trivial⟩ trivial trivial) (by kernel_rfl) (by kernel_rfl) (Eq.mp e30 k30)

def t28 : Prop :=
  ∀ (x : List (Int × List Int) × Unit), Kd.wf (Kd.sl (Kd.pair (Kd.int IntKind.i64) Kd.str)) x.fst ∧ True → (List.length x.fst ≤ (1000000000 : Nat) ∧ ∀ (a : Int × List Int), a ∈ x.fst →
  List.length a.snd ≤ (100000000 : Nat)) → (List.length x.fst ≤ (1000000000 : Nat) ∧ ∀ (a : Int × List Int), a ∈ x.fst → List.length a.snd ≤ (100000000 : Nat)) ∧ (∀ (y : Bool × Unit), Kd.wf
  Kd.bool y.fst ∧ True → y.fst = mayN x.fst → ((!y.fst) = true → (bs { data := #[] }, (120 : Int)) = TextN x.fst) ∧ ((!y.fst) = false → ∃ (I : Int × List Int × Unit → Unit → Prop), ∃ (μ : Int
  × List Int × Unit → Unit → Nat), (Value.bool false = Value.bool false ∧ (0 : Int) = (0 : Int) ∧ bs { data := #[] } = bs { data := #[] } ∧ x.fst = x.fst ∧ I ((0 : Int), bs { data := #[] },
  ()) ()) ∧ ∀ (y : Int × List Int × Unit) (z : Unit), Kd.wf (Kd.int IntKind.i64) y.fst ∧ Kd.wf Kd.str y.snd.fst ∧ True → True → I y z → (decide (y.fst < (↑(List.length x.fst) : Int)) = true →
  ∃ (J : List Int × Unit → Unit → Prop), ((decide ((0 : Int) < y.fst) = true → List.length y.snd.fst + (1 : Nat) ≤ (9223372036854775807 : Nat) ∧ Value.bool true = Value.bool true ∧ y.fst =
  y.fst ∧ Value.bool false = Value.bool false ∧ (0 : Int) = (0 : Int) ∧ bs { data := #[] } = bs { data := #[] } ∧ x.fst = x.fst ∧ J (y.snd.fst ++ bs { data := #[(44 : UInt8)] }, ()) ()) ∧
  (decide ((0 : Int) < y.fst) = false → Value.bool true = Value.bool true ∧ y.fst = y.fst ∧ Value.bool false = Value.bool false ∧ (0 : Int) = (0 : Int) ∧ bs { data := #[] } = bs { data := #[]
  } ∧ x.fst = x.fst ∧ J (y.snd.fst, ()) ())) ∧ ∀ (u : List Int × Unit) (z_1 : Unit), Kd.wf Kd.str u.fst ∧ True → True → J u z_1 → ((0 : Int) ≤ y.fst ∧ y.fst < (↑(List.length x.fst) : Int)) ∧
  True ∧ (∀ (y_1 : List Int × Unit), Kd.wf Kd.str y_1.fst ∧ True → y_1.fst = labelK (List.getD x.fst (Int.toNat y.fst) (Kd.dft (Kd.pair (Kd.int IntKind.i64) Kd.str))).fst → List.length u.fst
  + List.length y_1.fst ≤ (9223372036854775807 : Nat) ∧ List.length (u.fst ++ y_1.fst) + (1 : Nat) ≤ (9223372036854775807 : Nat) ∧ ∃ (I_1 : Int × List Int × Unit → Unit → Prop), ∃ (μ_1 : Int
  × List Int × Unit → Unit → Nat), (Value.bool true = Value.bool true ∧ y.fst = y.fst ∧ Value.bool false = Value.bool false ∧ (0 : Int) = (0 : Int) ∧ bs { data := #[] } = bs { data := #[] } ∧
  x.fst = x.fst ∧ I_1 ((0 : Int), u.fst ++ y_1.fst ++ bs { data := #[(61 : UInt8)] }, ()) ()) ∧ ∀ (y_2 : Int × List Int × Unit) (z_2 : Unit), Kd.wf (Kd.int IntKind.i64) y_2.fst ∧ Kd.wf Kd.str
  y_2.snd.fst ∧ True → True → I_1 y_2 z_2 → ((0 : Int) ≤ y.fst ∧ y.fst < (↑(List.length x.fst) : Int)) ∧ (decide (y_2.fst < (↑(List.length (List.getD x.fst (Int.toNat y.fst) (Kd.dft (Kd.pair
  (Kd.int IntKind.i64) Kd.str))).snd) : Int)) = true → ((0 : Int) ≤ y.fst ∧ y.fst < (↑(List.length x.fst) : Int)) ∧ ((0 : Int) ≤ y_2.fst ∧ y_2.fst < (↑(List.length (List.getD x.fst (Int.toNat
  y.fst) (Kd.dft (Kd.pair (Kd.int IntKind.i64) Kd.str))).snd) : Int)) ∧ ∃ (J : List Int × Unit → Unit → Prop), ((decide (List.getD (List.getD x.fst (Int.toNat y.fst) (Kd.dft (Kd.pair (Kd.int
  IntKind.i64) Kd.str))).snd (Int.toNat y_2.fst) (0 : Int) = (44 : Int)) = false → True) ∧ (decide (List.getD (List.getD x.fst (Int.toNat y.fst) (Kd.dft (Kd.pair (Kd.int IntKind.i64)
  Kd.str))).snd (Int.toNat y_2.fst) (0 : Int) = (44 : Int)) = false → (decide (List.getD (List.getD x.fst (Int.toNat y.fst) (Kd.dft (Kd.pair (Kd.int IntKind.i64) Kd.str))).snd (Int.toNat
  y_2.fst) (0 : Int) = (44 : Int)) == false) = true ∧ True) ∧ (decide (List.getD (List.getD x.fst (Int.toNat y.fst) (Kd.dft (Kd.pair (Kd.int IntKind.i64) Kd.str))).snd (Int.toNat y_2.fst) (0
  : Int) = (44 : Int)) = false → (decide (List.getD (List.getD x.fst (Int.toNat y.fst) (Kd.dft (Kd.pair (Kd.int IntKind.i64) Kd.str))).snd (Int.toNat y_2.fst) (0 : Int) = (44 : Int)) ==
  false) = true) ∧ ((bif decide (List.getD (List.getD x.fst (Int.toNat y.fst) (Kd.dft (Kd.pair (Kd.int IntKind.i64) Kd.str))).snd (Int.toNat y_2.fst) (0 : Int) = (44 : Int)) then true else
  decide (List.getD (List.getD x.fst (Int.toNat y.fst) (Kd.dft (Kd.pair (Kd.int IntKind.i64) Kd.str))).snd (Int.toNat y_2.fst) (0 : Int) = (92 : Int))) = true → List.length y_2.snd.fst + (1 :
  Nat) ≤ (9223372036854775807 : Nat) ∧ List.getD (List.getD x.fst (Int.toNat y.fst) (Kd.dft (Kd.pair (Kd.int IntKind.i64) Kd.str))).snd (Int.toNat y_2.fst) (0 : Int) = List.getD (List.getD
  x.fst (Int.toNat y.fst) (Kd.dft (Kd.pair (Kd.int IntKind.i64) Kd.str))).snd (Int.toNat y_2.fst) (0 : Int) ∧ Value.bool true = Value.bool true ∧ y_2.fst = y_2.fst ∧ Value.bool true =
  Value.bool true ∧ y.fst = y.fst ∧ Value.bool false = Value.bool false ∧ (0 : Int) = (0 : Int) ∧ bs { data := #[] } = bs { data := #[] } ∧ x.fst = x.fst ∧ J (y_2.snd.fst ++ bs { data :=
  #[(92 : UInt8)] }, ()) ()) ∧ ((bif decide (List.getD (List.getD x.fst (Int.toNat y.fst) (Kd.dft (Kd.pair (Kd.int IntKind.i64) Kd.str))).snd (Int.toNat y_2.fst) (0 : Int) = (44 : Int)) then
  true else decide (List.getD (List.getD x.fst (Int.toNat y.fst) (Kd.dft (Kd.pair (Kd.int IntKind.i64) Kd.str))).snd (Int.toNat y_2.fst) (0 : Int) = (92 : Int))) = false → List.getD
  (List.getD x.fst (Int.toNat y.fst) (Kd.dft (Kd.pair (Kd.int IntKind.i64) Kd.str))).snd (Int.toNat y_2.fst) (0 : Int) = List.getD (List.getD x.fst (Int.toNat y.fst) (Kd.dft (Kd.pair (Kd.int
  IntKind.i64) Kd.str))).snd (Int.toNat y_2.fst) (0 : Int) ∧ Value.bool true = Value.bool true ∧ y_2.fst = y_2.fst ∧ Value.bool true = Value.bool true ∧ y.fst = y.fst ∧ Value.bool false =
  Value.bool false ∧ (0 : Int) = (0 : Int) ∧ bs { data := #[] } = bs { data := #[] } ∧ x.fst = x.fst ∧ J (y_2.snd.fst, ()) ())) ∧ ∀ (u : List Int × Unit) (z : Unit), Kd.wf Kd.str u.fst ∧ True
  → True → J u z → List.length u.fst + List.length [List.getD (List.getD x.fst (Int.toNat y.fst) (Kd.dft (Kd.pair (Kd.int IntKind.i64) Kd.str))).snd (Int.toNat y_2.fst) (0 : Int)] ≤
  (9223372036854775807 : Nat) ∧ Value.bool true = Value.bool true ∧ y.fst = y.fst ∧ Value.bool false = Value.bool false ∧ (0 : Int) = (0 : Int) ∧ bs { data := #[] } = bs { data := #[] } ∧
  x.fst = x.fst ∧ I_1 (IntKind.wrap IntKind.i64 (y_2.fst + (1 : Int)), u.fst ++ [List.getD (List.getD x.fst (Int.toNat y.fst) (Kd.dft (Kd.pair (Kd.int IntKind.i64) Kd.str))).snd (Int.toNat
  y_2.fst) (0 : Int)], ()) () ∧ μ_1 (IntKind.wrap IntKind.i64 (y_2.fst + (1 : Int)), u.fst ++ [List.getD (List.getD x.fst (Int.toNat y.fst) (Kd.dft (Kd.pair (Kd.int IntKind.i64) Kd.str))).snd
  (Int.toNat y_2.fst) (0 : Int)], ()) () < μ_1 y_2 z_2) ∧ (decide (y_2.fst < (↑(List.length (List.getD x.fst (Int.toNat y.fst) (Kd.dft (Kd.pair (Kd.int IntKind.i64) Kd.str))).snd) : Int)) =
  false → Value.bool false = Value.bool false ∧ (0 : Int) = (0 : Int) ∧ bs { data := #[] } = bs { data := #[] } ∧ x.fst = x.fst ∧ I (IntKind.wrap IntKind.i64 (y.fst + (1 : Int)), y_2.snd.fst,
  ()) () ∧ μ (IntKind.wrap IntKind.i64 (y.fst + (1 : Int)), y_2.snd.fst, ()) () < μ y z)) ∧ True) ∧ (decide (y.fst < (↑(List.length x.fst) : Int)) = false → (y.snd.fst, (0 : Int)) = TextN
  x.fst))) ∧ True
theorem e28 : t28 = Con.vc c_r12_Text GL (mkEnv ty [(30, conSem c_r12_May), (40, conSem c_r12_Label)] [] [] [0, 2, 3, 4, 5, 6, 7, 10, 14, 18, 37, 52]) {joins := [9,16]} Tryd.f28.ntmps Tryd.f28.results.toList (bodyOf Tryd.f28) := by kernel_rfl
theorem k28 : t28 := by
  unfold t28
  rintro ⟨l, _⟩ hx hp
  have hp2 := hp
  obtain ⟨h1, h2⟩ := hp2
  simp only at h1 h2
  try dsimp +instances only [dft_int, dft_sl, dft_str]
  simp only [true_and, and_true, eq_self_iff_true, implies_true, reduceCtorEq, false_implies, true_implies, decide_eq_true_eq, decide_eq_false_iff_not, beq_self_eq_true, Bool.not_eq_true', ne_eq, Decidable.not_not, List.nil_append, List.length_singleton, List.length_cons, List.length_nil, Nat.zero_add, Nat.add_zero, Nat.mul_one, and_self, beq_iff_eq, Bool.not_true, Bool.not_false, Bool.not_eq_false', Bool.cond_false_right, Bool.and_eq_true, imp_self, Bool.not_eq_true, Bool.cond_true_left, Bool.or_eq_true]
  simp only [adft_eq3]
  rw [show bs { data := #[44] } = [44] by decide, show bs { data := #[61] } = [61] by decide, show bs { data := #[92] } = [92] by decide, bs_nil]
  refine ⟨⟨h1, h2⟩, ?_⟩
  rintro ⟨m, _⟩ _ em
  simp only at em ⊢
  refine ⟨fun hm => by rw [TextN, if_neg (by rw [← em, hm]; decide)], fun hm => ?_⟩
  subst em
  have hT : TextN l = (textN l, 0) := by rw [TextN, if_pos hm]
  obtain ⟨l16, hA⟩ := mayN_args hm
  refine ⟨fun y _ => 0 ≤ y.1 ∧ y.1 ≤ l.length ∧ y.2.1 = txtN l y.1.toNat, fun y _ => ((l.length : Int) - y.1).toNat, ⟨Int.le_refl 0, by simp only; omega, rfl⟩, ?_⟩
  rintro ⟨i, t, _⟩ _ _ ⟨i0, i1, et⟩
  simp only at i0 i1 et ⊢
  refine ⟨fun hlt => ?_, fun hge => by rw [hT, et, txtN_all (by omega)]⟩
  have hlen := txtN_len hA i.toNat (by omega)
  rw [← et] at hlen
  have hmem := mem_getD adft l i.toNat (by omega)
  have hl2 := label_len (l.getD i.toNat adft).1
  have hv := mayA_len (hA _ hmem)
  have hst := txtN_step (l := l) (i := i.toNat) (by omega)
  rw [← et] at hst
  refine ⟨fun u _ => u.1 = t ++ (if i.toNat = 0 then [] else [44]), ⟨fun hi => ⟨by omega, by rw [if_neg (by omega)]⟩, fun hi => by rw [if_pos (by omega), List.append_nil]⟩, ?_⟩
  rintro ⟨u, _⟩ _ _ eu
  simp only at eu ⊢
  have hu : u.length ≤ t.length + 1 := by rw [eu, List.length_append]; split <;> simp
  refine ⟨⟨i0, hlt⟩, ?_⟩
  rintro ⟨w, _⟩ _ ew
  simp only at ew ⊢
  subst ew
  refine ⟨by omega, by rw [List.length_append]; omega, ?_⟩
  refine ⟨fun y _ => 0 ≤ y.1 ∧ y.1 ≤ (l.getD i.toNat adft).2.length ∧ y.2.1 = u ++ labelK (l.getD i.toNat adft).1 ++ [61] ++ escD ((l.getD i.toNat adft).2.take y.1.toNat), fun y _ => (((l.getD i.toNat adft).2.length : Int) - y.1).toNat, ⟨Int.le_refl 0, by simp only; omega, by simp [escD]⟩, ?_⟩
  rintro ⟨k, q, _⟩ _ _ ⟨k0, k1, eq⟩
  simp only at k0 k1 eq ⊢
  have hql : q.length ≤ 3000 := by
    have := esc_len ((l.getD i.toNat adft).2.take k.toNat)
    rw [List.length_take] at this
    rw [eq]
    simp only [List.length_append, List.length_singleton]
    omega
  refine ⟨⟨i0, hlt⟩, fun hk => ⟨⟨i0, hlt⟩, ⟨k0, hk⟩, ?_⟩, fun hk => ?_⟩
  · have hts : escD ((l.getD i.toNat adft).2.take (k.toNat + 1)) = escD ((l.getD i.toNat adft).2.take k.toNat) ++ (if (l.getD i.toNat adft).2.getD k.toNat 0 = 44 ∨ (l.getD i.toNat adft).2.getD k.toNat 0 = 92 then [92, (l.getD i.toNat adft).2.getD k.toNat 0] else [(l.getD i.toNat adft).2.getD k.toNat 0]) := by
      rw [take_snoc (l.getD i.toNat adft).2 k.toNat (by omega), esc_snoc]
    refine ⟨fun u2 _ => u2.1 = q ++ (if (l.getD i.toNat adft).2.getD k.toNat 0 = 44 ∨ (l.getD i.toNat adft).2.getD k.toNat 0 = 92 then [92] else []), ⟨fun hc => ⟨by omega, by rw [if_pos hc]⟩, fun hc => ?_⟩, ?_⟩
    · rw [Bool.or_eq_false_iff] at hc
      rw [if_neg (fun h => h.elim (of_decide_eq_false hc.1) (of_decide_eq_false hc.2)), List.append_nil]
    · rintro ⟨u2, _⟩ _ _ eu2
      simp only at eu2 ⊢
      have hu2 : u2.length ≤ q.length + 1 := by rw [eu2, List.length_append]; split <;> simp
      rw [wrapK (k + 1) (by omega) (by omega)]
      refine ⟨by omega, ⟨by omega, by omega, ?_⟩, by omega⟩
      rw [show (k + 1).toNat = k.toNat + 1 by omega, hts, eu2, eq]
      split <;> simp
  · rw [wrapK (i + 1) (by omega) (by omega)]
    refine ⟨⟨by omega, by omega, ?_⟩, by omega⟩
    rw [show (i + 1).toNat = i.toNat + 1 by omega, hst, eq, eu, List.take_of_length_le (by omega), attrT]
    simp
theorem h28 : c_r12_Text.ok Tryd.prog GL 28 := con_ok (H := {joins := [9,16]}) (mkEnv_ok (gl := GL) (l := [(30, conSem c_r12_May), (40, conSem c_r12_Label)]) (q := []) (d := []) _ tyOk (by kernel_rfl) ⟨h30.call, h40.call, trivial⟩ trivial trivial) (by kernel_rfl) (by kernel_rfl) (Eq.mp e28 k28)

def t22 : Prop :=
  ∀ (x : List Int × Unit), Kd.wf Kd.str x.fst ∧ True → List.length x.fst ≤ (10000000 : Nat) → ∃ (I : Int × Int × Unit → List (List Int) × Unit → Prop), ∃ (μ : Int × Int × Unit → List (List
  Int) × Unit → Nat), (Value.slice none (0 : Nat) (0 : Nat) = Value.slice none (0 : Nat) (0 : Nat) ∧ x.fst = x.fst ∧ I ((0 : Int), (0 : Int), ()) ([], ())) ∧ ∀ (y : Int × Int × Unit) (z :
  List (List Int) × Unit), Kd.wf (Kd.int IntKind.i64) y.fst ∧ Kd.wf (Kd.int IntKind.i64) y.snd.fst ∧ True → Kd.wf (Kd.sl Kd.str) z.fst ∧ True → I y z → (decide (y.fst < (↑(List.length x.fst)
  : Int)) = true → ((0 : Int) ≤ y.fst ∧ y.fst < (↑(List.length x.fst) : Int)) ∧ (decide (List.getD x.fst (Int.toNat y.fst) (0 : Int) = (92 : Int)) = true → Value.slice none (0 : Nat) (0 :
  Nat) = Value.slice none (0 : Nat) (0 : Nat) ∧ x.fst = x.fst ∧ I (IntKind.wrap IntKind.i64 (y.fst + (2 : Int)), y.snd.fst, ()) (z.fst, ()) ∧ μ (IntKind.wrap IntKind.i64 (y.fst + (2 : Int)),
  y.snd.fst, ()) (z.fst, ()) < μ y z) ∧ (decide (List.getD x.fst (Int.toNat y.fst) (0 : Int) = (92 : Int)) = false → ((0 : Int) ≤ y.fst ∧ y.fst < (↑(List.length x.fst) : Int)) ∧ (decide
  (List.getD x.fst (Int.toNat y.fst) (0 : Int) = (44 : Int)) = true → ((0 : Int) ≤ y.snd.fst ∧ y.snd.fst ≤ y.fst ∧ y.fst ≤ (↑(List.length x.fst) : Int)) ∧ (0 : Nat) < (1 : Nat) ∧ (List.length
  z.fst + List.length [List.drop (Int.toNat y.snd.fst) (List.take (Int.toNat y.fst) x.fst)]) * (16 : Nat) ≤ (140737488355328 : Nat) ∧ List.length z.fst + List.length [List.drop (Int.toNat
  y.snd.fst) (List.take (Int.toNat y.fst) x.fst)] ≤ (9223372036854775807 : Nat) ∧ Value.slice none (0 : Nat) (0 : Nat) = Value.slice none (0 : Nat) (0 : Nat) ∧ x.fst = x.fst ∧ I (IntKind.wrap
  IntKind.i64 (y.fst + (1 : Int)), IntKind.wrap IntKind.i64 (y.fst + (1 : Int)), ()) (z.fst ++ [List.drop (Int.toNat y.snd.fst) (List.take (Int.toNat y.fst) x.fst)], ()) ∧ μ (IntKind.wrap
  IntKind.i64 (y.fst + (1 : Int)), IntKind.wrap IntKind.i64 (y.fst + (1 : Int)), ()) (z.fst ++ [List.drop (Int.toNat y.snd.fst) (List.take (Int.toNat y.fst) x.fst)], ()) < μ y z) ∧ (decide
  (List.getD x.fst (Int.toNat y.fst) (0 : Int) = (44 : Int)) = false → Value.slice none (0 : Nat) (0 : Nat) = Value.slice none (0 : Nat) (0 : Nat) ∧ x.fst = x.fst ∧ I (IntKind.wrap
  IntKind.i64 (y.fst + (1 : Int)), y.snd.fst, ()) (z.fst, ()) ∧ μ (IntKind.wrap IntKind.i64 (y.fst + (1 : Int)), y.snd.fst, ()) (z.fst, ()) < μ y z))) ∧ (decide (y.fst < (↑(List.length x.fst)
  : Int)) = false → ((0 : Int) ≤ y.snd.fst ∧ y.snd.fst ≤ (↑(List.length x.fst) : Int)) ∧ (0 : Nat) < (1 : Nat) ∧ (List.length z.fst + List.length [List.drop (Int.toNat y.snd.fst) x.fst]) *
  (16 : Nat) ≤ (140737488355328 : Nat) ∧ List.length z.fst + List.length [List.drop (Int.toNat y.snd.fst) x.fst] ≤ (9223372036854775807 : Nat) ∧ z.fst ++ [List.drop (Int.toNat y.snd.fst)
  x.fst] = partsE x.fst)
theorem e22 : t22 = Con.vc c_r12_Parts GL (mkEnv ty [] [] [] [0, 2, 3, 4, 5, 9, 13, 19]) {} Tryd.f22.ntmps Tryd.f22.results.toList (bodyOf Tryd.f22) := by kernel_rfl
theorem k22 : t22 := by
  unfold t22
  rintro ⟨s, _⟩ hx hp
  have hp : s.length ≤ 10000000 := hp
  try dsimp +instances only [dft_int, dft_sl, dft_str]
  simp only [true_and, and_true, eq_self_iff_true, implies_true, reduceCtorEq, false_implies, true_implies, decide_eq_true_eq, decide_eq_false_iff_not, beq_self_eq_true, Bool.not_eq_true', ne_eq, Decidable.not_not, List.nil_append, List.length_singleton, List.length_cons, List.length_nil, Nat.zero_add, Nat.add_zero, Nat.mul_one, and_self, beq_iff_eq, Bool.not_true, Bool.not_false, Bool.not_eq_false', Bool.cond_false_right, Bool.and_eq_true, imp_self, Bool.not_eq_true, Bool.cond_true_left, Bool.or_eq_true]
  refine ⟨fun y z => 0 ≤ y.1 ∧ y.1 ≤ s.length + 1 ∧ 0 ≤ y.2.1 ∧ y.2.1 ≤ y.1 ∧ y.2.1 ≤ s.length ∧ (z.1 : List (List Int)).length ≤ y.1 ∧ partsE s = z.1 ++ pcs s y.2.1.toNat y.1.toNat, fun y _ => ((s.length : Int) + 1 - y.1).toNat, ⟨Int.le_refl 0, by simp only; omega, Int.le_refl 0, Int.le_refl 0, by simp only; omega, by simp, rfl⟩, ?_⟩
  rintro ⟨i, f, _⟩ ⟨z, _⟩ _ _ ⟨i0, i1, f0, f1, f2, hz, e⟩
  simp only at i0 i1 f0 f1 f2 hz e ⊢
  refine ⟨fun hlt => ⟨⟨i0, hlt⟩, fun hc => ?_, fun hc => ⟨⟨i0, hlt⟩, fun h4 => ?_, fun h4 => ?_⟩⟩, fun hge => ?_⟩
  · rw [wrapK (i + 2) (by omega) (by omega)]
    refine ⟨⟨by omega, by omega, f0, by omega, f2, by omega, ?_⟩, by omega⟩
    rw [e, pcs_two (by omega) (by omega) hc, show i.toNat + 2 = (i + 2).toNat by omega]
  · rw [wrapK (i + 1) (by omega) (by omega)]
    refine ⟨⟨f0, f1, by omega⟩, by decide, by omega, by omega, ⟨by omega, by omega, by omega, by omega, by omega, by rw [List.length_append, List.length_singleton]; omega, ?_⟩, by omega⟩
    rw [e, pcs_comma (by omega) h4, show i.toNat + 1 = (i + 1).toNat by omega]
    simp
  · rw [wrapK (i + 1) (by omega) (by omega)]
    refine ⟨⟨by omega, by omega, f0, by omega, f2, by omega, ?_⟩, by omega⟩
    rw [e, pcs_one (by omega) (by omega) h4 hc, show i.toNat + 1 = (i + 1).toNat by omega]
  · refine ⟨⟨f0, f2⟩, by decide, by omega, by omega, ?_⟩
    rw [e, pcs_end (by omega)]
theorem h22 : c_r12_Parts.ok Tryd.prog GL 22 := con_ok (H := {}) (mkEnv_ok (gl := GL) (l := []) (q := []) (d := []) _ tyOk (by kernel_rfl) trivial trivial trivial) (by kernel_rfl) (by kernel_rfl) (Eq.mp e22 k22)

end Go.Proofs.YtcaekpbmmbfeiaaDoor
end
section
/- Contracts. -/
namespace Go.Proofs.YtcaekpbmmbfeiaaDoor
open Go Go.Vc Go.Pl Go.Proofs
def c_law12_own : Con := { args := [.own 56 AT, .dat (.sl AT), .dat (.sl AT)], res := [.dat .bool], pre := fun x => lenA x.1 ≤ 1000 ∧ lenA x.2.1 ≤ 1000 ∧ lenA x.2.2.1 ≤ 1000, post := fun x y => x.1 = x.2.2.1 → x.2.1 = x.2.2.1 → y.1 = true }

end Go.Proofs.YtcaekpbmmbfeiaaDoor
end
section
/- Walks. -/
namespace Go.Proofs.YtcaekpbmmbfeiaaDoor
open Go Go.Vc Go.Pl Go.Proofs
set_option linter.unusedVariables false
set_option linter.unusedSimpArgs false
def t18 : Prop :=
  ∀ (x : List Int × Unit), Kd.wf Kd.str x.fst ∧ True → List.length x.fst ≤ (10000000 : Nat) → (1 : Nat) ≤ (65536 : Nat) ∧ (1 : Nat) ≤ (65536 : Nat) ∧ (1 : Nat) ≤ (65536 : Nat) ∧ (decide
  (x.fst = bs { data := #[] }) = true → parN x.fst [] (0 : Int) = true) ∧ (decide (x.fst = bs { data := #[] }) = false → List.length [SV.dat Kd.str x.fst] ≤ (65536 : Nat) ∧ ∃ (I : Int × Int ×
  Unit → Unit × (Int × Unit) × Unit × (List Int × Unit) × List (Int × List Int) × List (Int × List Int) × Unit → Prop), ∃ (μ : Int × Int × Unit → Unit × (Int × Unit) × Unit × (List Int ×
  Unit) × List (Int × List Int) × List (Int × List Int) × Unit → Nat), (Value.bool false = Value.bool false ∧ x.fst = x.fst ∧ I ((0 : Int), (0 : Int), ()) ((), ((0 : Int), ()), (), (x.fst,
  ()), [], [], ())) ∧ ∀ (y : Int × Int × Unit) (z : Unit × (Int × Unit) × Unit × (List Int × Unit) × List (Int × List Int) × List (Int × List Int) × Unit), Kd.wf (Kd.int IntKind.i64) y.fst ∧
  Kd.wf (Kd.int IntKind.i64) y.snd.fst ∧ True → True ∧ (Kd.wf (Kd.int IntKind.i64) z.snd.fst.fst ∧ True) ∧ True ∧ (Kd.wf Kd.str z.snd.snd.snd.fst.fst ∧ True) ∧ Kd.wf (Kd.sl (Kd.pair (Kd.int
  IntKind.i64) Kd.str)) z.snd.snd.snd.snd.fst ∧ Kd.wf (Kd.sl (Kd.pair (Kd.int IntKind.i64) Kd.str)) z.snd.snd.snd.snd.snd.fst ∧ True → I y z → (decide (y.fst < (↑(List.length
  z.snd.snd.snd.fst.fst) : Int)) = true → ((0 : Int) ≤ y.fst ∧ y.fst < (↑(List.length z.snd.snd.snd.fst.fst) : Int)) ∧ (decide (List.getD z.snd.snd.snd.fst.fst (Int.toNat y.fst) (0 : Int) =
  (92 : Int)) = true → Value.bool false = Value.bool false ∧ x.fst = x.fst ∧ I (IntKind.wrap IntKind.i64 (IntKind.wrap IntKind.i64 (y.fst + (1 : Int)) + (1 : Int)), y.snd.fst, ()) ((),
  (z.snd.fst.fst, ()), (), (z.snd.snd.snd.fst.fst, ()), z.snd.snd.snd.snd.fst, z.snd.snd.snd.snd.snd.fst, ()) ∧ μ (IntKind.wrap IntKind.i64 (IntKind.wrap IntKind.i64 (y.fst + (1 : Int)) + (1
  : Int)), y.snd.fst, ()) ((), (z.snd.fst.fst, ()), (), (z.snd.snd.snd.fst.fst, ()), z.snd.snd.snd.snd.fst, z.snd.snd.snd.snd.snd.fst, ()) < μ y z) ∧ (decide (List.getD z.snd.snd.snd.fst.fst
  (Int.toNat y.fst) (0 : Int) = (92 : Int)) = false → (decide (List.getD z.snd.snd.snd.fst.fst (Int.toNat y.fst) (0 : Int) = (44 : Int)) = true → ((0 : Int) ≤ y.snd.fst ∧ y.snd.fst ≤ y.fst ∧
  y.fst ≤ (↑(List.length z.snd.snd.snd.fst.fst) : Int)) ∧ (List.length (List.drop (Int.toNat y.snd.fst) (List.take (Int.toNat y.fst) z.snd.snd.snd.fst.fst)) < (4294967281 : Nat) ∧ List.length
  (bs { data := #[(61 : UInt8)] }) = (1 : Nat)) ∧ (∀ (y_1 : List Int × List Int × Bool × Unit), Kd.wf Kd.str y_1.fst ∧ Kd.wf Kd.str y_1.snd.fst ∧ Kd.wf Kd.bool y_1.snd.snd.fst ∧ True →
  y_1.fst = (cutD (List.getD (bs { data := #[(61 : UInt8)] }) (0 : Nat) (0 : Int)) (List.drop (Int.toNat y.snd.fst) (List.take (Int.toNat y.fst) z.snd.snd.snd.fst.fst))).fst ∧ y_1.snd.fst =
  (cutD (List.getD (bs { data := #[(61 : UInt8)] }) (0 : Nat) (0 : Int)) (List.drop (Int.toNat y.snd.fst) (List.take (Int.toNat y.fst) z.snd.snd.snd.fst.fst))).snd.fst ∧ y_1.snd.snd.fst =
  (cutD (List.getD (bs { data := #[(61 : UInt8)] }) (0 : Nat) (0 : Int)) (List.drop (Int.toNat y.snd.fst) (List.take (Int.toNat y.fst) z.snd.snd.snd.fst.fst))).snd.snd → List.length
  y_1.snd.fst ≤ (1000000000 : Nat) ∧ (∀ (y_2 : List Int × Bool × Unit), Kd.wf Kd.str y_2.fst ∧ Kd.wf Kd.bool y_2.snd.fst ∧ True → (y_2.fst, y_2.snd.fst) = PlainD y_1.snd.fst → True ∧ (∀ (y_3
  : Int × Unit), Kd.wf (Kd.int IntKind.i64) y_3.fst ∧ True → y_3.fst = typK y_1.fst → (2 : Nat) ≤ (65536 : Nat) ∧ ((!y_1.snd.snd.fst) = false → True) ∧ ((!y_1.snd.snd.fst) = false →
  ((!y_1.snd.snd.fst) == false) = true ∧ True) ∧ ((!y_1.snd.snd.fst) = false → ((!y_1.snd.snd.fst) == false) = true) ∧ ((bif !y_1.snd.snd.fst then true else !y_2.snd.fst) = false → True) ∧
  ((bif !y_1.snd.snd.fst then true else !y_2.snd.fst) = false → ((bif !y_1.snd.snd.fst then true else !y_2.snd.fst) == false) = true ∧ True ∧ (∀ (y_4 : Bool × Unit), Kd.wf Kd.bool y_4.fst ∧
  True → y_4.fst = mayA (y_3.fst, y_2.fst) → ((!y_4.fst) = false → True) ∧ ((!y_4.fst) = false → ((!y_4.fst) == false) = true ∧ True) ∧ ((!y_4.fst) = false → ((!y_4.fst) == false) = true ∧
  True) ∧ ((!y_4.fst) = false → ((!y_4.fst) == false) = true) ∧ ((bif !y_4.fst then true else decide ((↑(List.length z.snd.snd.snd.snd.snd.fst) : Int) = (16 : Int))) = true → parN x.fst []
  (120 : Int) = true) ∧ ((bif !y_4.fst then true else decide ((↑(List.length z.snd.snd.snd.snd.snd.fst) : Int) = (16 : Int))) = false → (0 : Nat) < (2 : Nat) ∧ (List.length
  z.snd.snd.snd.snd.snd.fst + List.length [(y_3.fst, y_2.fst)]) * (24 : Nat) ≤ (140737488355328 : Nat) ∧ List.length z.snd.snd.snd.snd.snd.fst + List.length [(y_3.fst, y_2.fst)] ≤
  (9223372036854775807 : Nat) ∧ Value.bool false = Value.bool false ∧ x.fst = x.fst ∧ I (IntKind.wrap IntKind.i64 (y.fst + (1 : Int)), IntKind.wrap IntKind.i64 (y.fst + (1 : Int)), ()) ((),
  (z.snd.fst.fst, ()), (), (z.snd.snd.snd.fst.fst, ()), z.snd.snd.snd.snd.fst, z.snd.snd.snd.snd.snd.fst ++ [(y_3.fst, y_2.fst)], ()) ∧ μ (IntKind.wrap IntKind.i64 (y.fst + (1 : Int)),
  IntKind.wrap IntKind.i64 (y.fst + (1 : Int)), ()) ((), (z.snd.fst.fst, ()), (), (z.snd.snd.snd.fst.fst, ()), z.snd.snd.snd.snd.fst, z.snd.snd.snd.snd.snd.fst ++ [(y_3.fst, y_2.fst)], ()) <
  μ y z)) ∧ True) ∧ ((bif !y_1.snd.snd.fst then true else !y_2.snd.fst) = !false → parN x.fst [] (120 : Int) = true)) ∧ True) ∧ True) ∧ True) ∧ (decide (List.getD z.snd.snd.snd.fst.fst
  (Int.toNat y.fst) (0 : Int) = (44 : Int)) = false → Value.bool false = Value.bool false ∧ x.fst = x.fst ∧ I (IntKind.wrap IntKind.i64 (y.fst + (1 : Int)), y.snd.fst, ()) ((),
  (z.snd.fst.fst, ()), (), (z.snd.snd.snd.fst.fst, ()), z.snd.snd.snd.snd.fst, z.snd.snd.snd.snd.snd.fst, ()) ∧ μ (IntKind.wrap IntKind.i64 (y.fst + (1 : Int)), y.snd.fst, ()) ((),
  (z.snd.fst.fst, ()), (), (z.snd.snd.snd.fst.fst, ()), z.snd.snd.snd.snd.fst, z.snd.snd.snd.snd.snd.fst, ()) < μ y z))) ∧ (decide (y.fst < (↑(List.length z.snd.snd.snd.fst.fst) : Int)) =
  false → ((0 : Int) ≤ y.snd.fst ∧ y.snd.fst ≤ (↑(List.length z.snd.snd.snd.fst.fst) : Int)) ∧ (List.length (List.drop (Int.toNat y.snd.fst) z.snd.snd.snd.fst.fst) < (4294967281 : Nat) ∧
  List.length (bs { data := #[(61 : UInt8)] }) = (1 : Nat)) ∧ (∀ (y_1 : List Int × List Int × Bool × Unit), Kd.wf Kd.str y_1.fst ∧ Kd.wf Kd.str y_1.snd.fst ∧ Kd.wf Kd.bool y_1.snd.snd.fst ∧
  True → y_1.fst = (cutD (List.getD (bs { data := #[(61 : UInt8)] }) (0 : Nat) (0 : Int)) (List.drop (Int.toNat y.snd.fst) z.snd.snd.snd.fst.fst)).fst ∧ y_1.snd.fst = (cutD (List.getD (bs {
  data := #[(61 : UInt8)] }) (0 : Nat) (0 : Int)) (List.drop (Int.toNat y.snd.fst) z.snd.snd.snd.fst.fst)).snd.fst ∧ y_1.snd.snd.fst = (cutD (List.getD (bs { data := #[(61 : UInt8)] }) (0 :
  Nat) (0 : Int)) (List.drop (Int.toNat y.snd.fst) z.snd.snd.snd.fst.fst)).snd.snd → List.length y_1.snd.fst ≤ (1000000000 : Nat) ∧ (∀ (y : List Int × Bool × Unit), Kd.wf Kd.str y.fst ∧ Kd.wf
  Kd.bool y.snd.fst ∧ True → (y.fst, y.snd.fst) = PlainD y_1.snd.fst → True ∧ (∀ (y_2 : Int × Unit), Kd.wf (Kd.int IntKind.i64) y_2.fst ∧ True → y_2.fst = typK y_1.fst → (2 : Nat) ≤ (65536 :
  Nat) ∧ ((!y_1.snd.snd.fst) = false → True) ∧ ((!y_1.snd.snd.fst) = false → ((!y_1.snd.snd.fst) == false) = true ∧ True) ∧ ((!y_1.snd.snd.fst) = false → ((!y_1.snd.snd.fst) == false) = true)
  ∧ ((bif !y_1.snd.snd.fst then true else !y.snd.fst) = false → True) ∧ ((bif !y_1.snd.snd.fst then true else !y.snd.fst) = false → ((bif !y_1.snd.snd.fst then true else !y.snd.fst) == false)
  = true ∧ True ∧ (∀ (y_3 : Bool × Unit), Kd.wf Kd.bool y_3.fst ∧ True → y_3.fst = mayA (y_2.fst, y.fst) → ((!y_3.fst) = false → True) ∧ ((!y_3.fst) = false → ((!y_3.fst) == false) = true ∧
  True) ∧ ((!y_3.fst) = false → ((!y_3.fst) == false) = true ∧ True) ∧ ((!y_3.fst) = false → ((!y_3.fst) == false) = true) ∧ ((bif !y_3.fst then true else decide ((↑(List.length
  z.snd.snd.snd.snd.snd.fst) : Int) = (16 : Int))) = true → parN x.fst [] (120 : Int) = true) ∧ ((bif !y_3.fst then true else decide ((↑(List.length z.snd.snd.snd.snd.snd.fst) : Int) = (16 :
  Int))) = false → (0 : Nat) < (2 : Nat) ∧ (List.length z.snd.snd.snd.snd.snd.fst + List.length [(y_2.fst, y.fst)]) * (24 : Nat) ≤ (140737488355328 : Nat) ∧ List.length
  z.snd.snd.snd.snd.snd.fst + List.length [(y_2.fst, y.fst)] ≤ (9223372036854775807 : Nat) ∧ parN x.fst (z.snd.snd.snd.snd.snd.fst ++ [(y_2.fst, y.fst)]) (0 : Int) = true)) ∧ True) ∧ ((bif
  !y_1.snd.snd.fst then true else !y.snd.fst) = !false → parN x.fst [] (120 : Int) = true)) ∧ True) ∧ True) ∧ True))
theorem e18 : t18 = Con.vc c_name_Parse GL (mkEnv ty [(21, i21), (36, conSem c_strings_Cut), (37, conSem c_name_plain), (38, conSem c_name_typeOf), (39, conSem c_name_may)] [(41, i41)] [] [0, 2, 3, 4, 5, 6, 7, 8, 9, 10, 11, 13, 16, 17, 48]) {} Tryd.f18.ntmps Tryd.f18.results.toList (bodyOf Tryd.f18) := by kernel_rfl
theorem k18 : t18 := by
  unfold t18
  rintro ⟨s, _⟩ hx hp
  have hp : s.length ≤ 10000000 := hp
  try dsimp +instances only [dft_int, dft_sl, dft_str]
  simp only [true_and, and_true, eq_self_iff_true, implies_true, reduceCtorEq, false_implies, true_implies, decide_eq_true_eq, decide_eq_false_iff_not, beq_self_eq_true, Bool.not_eq_true', ne_eq, Decidable.not_not, List.nil_append, List.length_singleton, List.length_cons, List.length_nil, Nat.zero_add, Nat.add_zero, Nat.mul_one, and_self, beq_iff_eq, Bool.not_true, Bool.not_false, Bool.not_eq_false', Bool.cond_false_right, Bool.and_eq_true, imp_self, Bool.not_eq_true, Bool.cond_true_left, Bool.or_eq_true]
  rw [show bs { data := #[61] } = [61] by decide, bs_nil]
  refine ⟨by decide, by decide, by decide, fun h => by rw [h]; exact parN_iff.2 (.inl ⟨rfl, rfl, rfl⟩), fun hs => ⟨by decide, ?_⟩⟩
  refine ⟨fun y z => z.2.2.2.1.1 = s ∧ 0 ≤ y.1 ∧ y.1 ≤ s.length + 1 ∧ 0 ≤ y.2.1 ∧ y.2.1 ≤ y.1 ∧ y.2.1 ≤ s.length ∧ (z.2.2.2.2.2.1 : List AttrT).length ≤ 16 ∧ (∀ a ∈ (z.2.2.2.2.2.1 : List AttrT), mayA a = true) ∧ partsE s = (z.2.2.2.2.2.1 : List AttrT).map attrT ++ pcs s y.2.1.toNat y.1.toNat, fun y _ => ((s.length : Int) + 1 - y.1).toNat, ⟨rfl, Int.le_refl 0, by simp only; omega, Int.le_refl 0, Int.le_refl 0, by simp only; omega, by simp, (fun a ha => by cases ha), rfl⟩, ?_⟩
  rintro ⟨i, f, _⟩ ⟨_, ⟨q, _⟩, _, ⟨sv, _⟩, o, acc, _⟩ _ _ ⟨e1, i0, i1, f0, f1, f2, h16, hA, e⟩
  simp only at e1 i0 i1 f0 f1 f2 h16 hA e ⊢
  subst e1
  rw [show ([61] : List Int).getD 0 0 = 61 from rfl]
  refine ⟨fun hlt => ⟨⟨i0, hlt⟩, fun hc => ?_, fun hc => ⟨fun h4 => ⟨⟨f0, f1, by omega⟩, ⟨by have := piece_len (s := sv) (f := f.toNat) (i := i.toNat); omega, rfl⟩, ?_⟩, fun h4 => ?_⟩⟩, fun hge => ⟨⟨f0, f2⟩, ⟨by rw [List.length_drop]; omega, rfl⟩, ?_⟩⟩
  · rw [wrapK (i + 1) (by omega) (by omega), wrapK (i + 1 + 1) (by omega) (by omega)]
    refine ⟨⟨rfl, by omega, by omega, f0, by omega, f2, h16, hA, ?_⟩, by omega⟩
    rw [e, pcs_two (by omega) (by omega) hc, show i.toNat + 2 = (i + 1 + 1).toNat by omega]
  · have hlen := piece_len (s := sv) (f := f.toNat) (i := i.toNat)
    rw [pcs_comma (by omega) h4, show i.toNat + 1 = (i + 1).toNat by omega] at e
    generalize (sv.take i.toNat).drop f.toNat = p at e hlen
    have hn : noC p = true := parts_noC (s := sv) (by rw [e]; simp)
    have hcl := cut_len p
    rintro ⟨w, r, g, _⟩ _ ⟨ew, er, eg⟩
    simp only at ew er eg ⊢
    refine ⟨by rw [er]; omega, ?_⟩
    rintro ⟨v, ok, _⟩ _ ev
    rintro ⟨k, _⟩ _ ek
    simp only at ev ek ⊢
    subst ew er eg ek
    have ev1 : v = (PlainD (cutD 61 p).2.1).1 := (congrArg Prod.fst ev)
    have ev2 : ok = (PlainD (cutD 61 p).2.1).2 := (congrArg Prod.snd ev)
    subst ev1 ev2
    refine ⟨by decide, fun hh => ⟨hh, ?_⟩, fun hh => piece_bad hs e (.inl (pA_none (hh.imp id .inl)))⟩
    simp only [Bool.or_eq_false_iff, Bool.not_eq_false'] at hh
    rintro ⟨b, _⟩ _ eb
    simp only at eb ⊢
    subst eb
    refine ⟨fun hh2 => piece_bad hs e (hh2.imp (fun h => pA_none (.inr (.inr h))) (by omega)), fun hh2 => ?_⟩
    simp only [Bool.or_eq_false_iff, Bool.not_eq_false', decide_eq_false_iff_not] at hh2
    obtain ⟨k1, k2⟩ := attr_pA hn (pA_some hh.1 hh.2 hh2.1)
    rw [wrapK (i + 1) (by omega) (by omega)]
    refine ⟨by decide, by omega, by omega, ⟨by trivial, by omega, by omega, by omega, by omega, by omega, by rw [List.length_append, List.length_singleton]; omega, fun a ha => ?_, ?_⟩, by omega⟩
    · rcases List.mem_append.1 ha with ha | ha
      · exact hA a ha
      · rw [List.mem_singleton.1 ha]; exact k2
    · rw [e, List.map_append, List.map_singleton, k1]; simp
  · rw [wrapK (i + 1) (by omega) (by omega)]
    refine ⟨⟨rfl, by omega, by omega, f0, by omega, f2, h16, hA, ?_⟩, by omega⟩
    rw [e, pcs_one (by omega) (by omega) h4 hc, show i.toNat + 1 = (i + 1).toNat by omega]
  · have hlen : (sv.drop f.toNat).length ≤ sv.length := by rw [List.length_drop]; omega
    rw [pcs_end (by omega)] at e
    generalize sv.drop f.toNat = p at e hlen
    have hn : noC p = true := parts_noC (s := sv) (by rw [e]; simp)
    have hcl := cut_len p
    rintro ⟨w, r, g, _⟩ _ ⟨ew, er, eg⟩
    simp only at ew er eg ⊢
    refine ⟨by rw [er]; omega, ?_⟩
    rintro ⟨v, ok, _⟩ _ ev
    rintro ⟨k, _⟩ _ ek
    simp only at ev ek ⊢
    subst ew er eg ek
    have ev1 : v = (PlainD (cutD 61 p).2.1).1 := (congrArg Prod.fst ev)
    have ev2 : ok = (PlainD (cutD 61 p).2.1).2 := (congrArg Prod.snd ev)
    subst ev1 ev2
    refine ⟨by decide, fun hh => ⟨hh, ?_⟩, fun hh => piece_bad hs e (.inl (pA_none (hh.imp id .inl)))⟩
    simp only [Bool.or_eq_false_iff, Bool.not_eq_false'] at hh
    rintro ⟨b, _⟩ _ eb
    simp only at eb ⊢
    subst eb
    refine ⟨fun hh2 => piece_bad hs e (hh2.imp (fun h => pA_none (.inr (.inr h))) (by omega)), fun hh2 => ?_⟩
    simp only [Bool.or_eq_false_iff, Bool.not_eq_false', decide_eq_false_iff_not] at hh2
    obtain ⟨k1, k2⟩ := attr_pA hn (pA_some hh.1 hh.2 hh2.1)
    refine ⟨by decide, by omega, by omega, read_ok hs (by rw [List.length_append, List.length_singleton]; omega) ?_ fun a ha => ?_⟩
    · rw [e, List.map_append, List.map_singleton, k1]
    · rcases List.mem_append.1 ha with ha | ha
      · exact hA a ha
      · rw [List.mem_singleton.1 ha]; exact k2
theorem h18 : c_name_Parse.ok Tryd.prog GL 18 := con_ok (H := {}) (mkEnv_ok (gl := GL) (l := [(21, i21), (36, conSem c_strings_Cut), (37, conSem c_name_plain), (38, conSem c_name_typeOf), (39, conSem c_name_may)]) (q := [(41, i41)]) (d := []) _ tyOk (by kernel_rfl) ⟨i21_ok, h36.call, h37.call, h38.call, h39.call, trivial⟩ ⟨i41_ok, trivial⟩ trivial) (by kernel_rfl) (by kernel_rfl) (Eq.mp e18 k18)

def t19 : Prop :=
  ∀ (x : List Int × Unit), Kd.wf Kd.str x.fst ∧ True → List.length x.fst ≤ (10000000 : Nat) → (decide (x.fst = bs { data := #[] }) = true → parN x.fst [] (0 : Int) = true) ∧ (decide (x.fst =
  bs { data := #[] }) = false → List.length x.fst ≤ (10000000 : Nat) ∧ (∀ (y : List (List Int) × Unit), Kd.wf (Kd.sl Kd.str) y.fst ∧ True → y.fst = partsE x.fst → ∃ (I : Int × Unit → List
  (Int × List Int) × Unit → Prop), ∃ (μ : Int × Unit → List (Int × List Int) × Unit → Nat), (Value.bool false = Value.bool false ∧ (0 : Int) = (0 : Int) ∧ Value.slice none (0 : Nat) (0 : Nat)
  = Value.slice none (0 : Nat) (0 : Nat) ∧ x.fst = x.fst ∧ y.fst = y.fst ∧ I ((0 : Int), ()) ([], ())) ∧ ∀ (y_1 : Int × Unit) (z : List (Int × List Int) × Unit), Kd.wf (Kd.int IntKind.i64)
  y_1.fst ∧ True → Kd.wf (Kd.sl (Kd.pair (Kd.int IntKind.i64) Kd.str)) z.fst ∧ True → I y_1 z → (decide (y_1.fst < (↑(List.length y.fst) : Int)) = true → ∃ (I_1 : Int × Unit → Unit → Prop), ∃
  (μ_1 : Int × Unit → Unit → Nat), (Value.bool true = Value.bool true ∧ y_1.fst = y_1.fst ∧ Value.bool false = Value.bool false ∧ (0 : Int) = (0 : Int) ∧ Value.slice none (0 : Nat) (0 : Nat)
  = Value.slice none (0 : Nat) (0 : Nat) ∧ x.fst = x.fst ∧ y.fst = y.fst ∧ z.fst = z.fst ∧ I_1 ((0 : Int), ()) ()) ∧ ∀ (y_2 : Int × Unit) (z_1 : Unit), Kd.wf (Kd.int IntKind.i64) y_2.fst ∧
  True → True → I_1 y_2 z_1 → ((0 : Int) ≤ y_1.fst ∧ y_1.fst < (↑(List.length y.fst) : Int)) ∧ (decide (y_2.fst < (↑(List.length (List.getD y.fst (Int.toNat y_1.fst) (Kd.dft Kd.str))) : Int))
  = true → True) ∧ (decide (y_2.fst < (↑(List.length (List.getD y.fst (Int.toNat y_1.fst) (Kd.dft Kd.str))) : Int)) = true → True) ∧ (decide (y_2.fst < (↑(List.length (List.getD y.fst
  (Int.toNat y_1.fst) (Kd.dft Kd.str))) : Int)) = true → (decide (y_2.fst < (↑(List.length (List.getD y.fst (Int.toNat y_1.fst) (Kd.dft Kd.str))) : Int)) == true) = true ∧ (decide (y_2.fst <
  (↑(List.length (List.getD y.fst (Int.toNat y_1.fst) (Kd.dft Kd.str))) : Int)) == true) = true ∧ ((0 : Int) ≤ y_1.fst ∧ y_1.fst < (↑(List.length y.fst) : Int)) ∧ True) ∧ (decide (y_2.fst <
  (↑(List.length (List.getD y.fst (Int.toNat y_1.fst) (Kd.dft Kd.str))) : Int)) = true → (decide (y_2.fst < (↑(List.length (List.getD y.fst (Int.toNat y_1.fst) (Kd.dft Kd.str))) : Int)) ==
  true) = true ∧ True) ∧ (decide (y_2.fst < (↑(List.length (List.getD y.fst (Int.toNat y_1.fst) (Kd.dft Kd.str))) : Int)) = true → True) ∧ (decide (y_2.fst < (↑(List.length (List.getD y.fst
  (Int.toNat y_1.fst) (Kd.dft Kd.str))) : Int)) = true → (decide (y_2.fst < (↑(List.length (List.getD y.fst (Int.toNat y_1.fst) (Kd.dft Kd.str))) : Int)) == true) = true ∧ (decide (y_2.fst <
  (↑(List.length (List.getD y.fst (Int.toNat y_1.fst) (Kd.dft Kd.str))) : Int)) == true) = true ∧ ((0 : Int) ≤ y_2.fst ∧ y_2.fst < (↑(List.length (List.getD y.fst (Int.toNat y_1.fst) (Kd.dft
  Kd.str))) : Int)) ∧ True) ∧ (decide (y_2.fst < (↑(List.length (List.getD y.fst (Int.toNat y_1.fst) (Kd.dft Kd.str))) : Int)) = true → (decide (y_2.fst < (↑(List.length (List.getD y.fst
  (Int.toNat y_1.fst) (Kd.dft Kd.str))) : Int)) == true) = true ∧ True) ∧ (decide (y_2.fst < (↑(List.length (List.getD y.fst (Int.toNat y_1.fst) (Kd.dft Kd.str))) : Int)) = true → (decide
  (y_2.fst < (↑(List.length (List.getD y.fst (Int.toNat y_1.fst) (Kd.dft Kd.str))) : Int)) == true) = true) ∧ ((bif decide (y_2.fst < (↑(List.length (List.getD y.fst (Int.toNat y_1.fst)
  (Kd.dft Kd.str))) : Int)) then decide (List.getD (List.getD y.fst (Int.toNat y_1.fst) (Kd.dft Kd.str)) (Int.toNat y_2.fst) (0 : Int) ≠ (61 : Int)) else false) = true → Value.bool true =
  Value.bool true ∧ y_1.fst = y_1.fst ∧ Value.bool false = Value.bool false ∧ (0 : Int) = (0 : Int) ∧ Value.slice none (0 : Nat) (0 : Nat) = Value.slice none (0 : Nat) (0 : Nat) ∧ x.fst =
  x.fst ∧ y.fst = y.fst ∧ z.fst = z.fst ∧ I_1 (IntKind.wrap IntKind.i64 (y_2.fst + (1 : Int)), ()) () ∧ μ_1 (IntKind.wrap IntKind.i64 (y_2.fst + (1 : Int)), ()) () < μ_1 y_2 z_1) ∧ ((bif
  decide (y_2.fst < (↑(List.length (List.getD y.fst (Int.toNat y_1.fst) (Kd.dft Kd.str))) : Int)) then decide (List.getD (List.getD y.fst (Int.toNat y_1.fst) (Kd.dft Kd.str)) (Int.toNat
  y_2.fst) (0 : Int) ≠ (61 : Int)) else false) = false → ∃ (I_2 : Int × Int × Unit → Unit → Prop), ∃ (μ_2 : Int × Int × Unit → Unit → Nat), (Value.bool false = Value.bool false ∧ y_2.fst =
  y_2.fst ∧ Value.bool true = Value.bool true ∧ y_1.fst = y_1.fst ∧ Value.bool false = Value.bool false ∧ (0 : Int) = (0 : Int) ∧ Value.slice none (0 : Nat) (0 : Nat) = Value.slice none (0 :
  Nat) (0 : Nat) ∧ x.fst = x.fst ∧ y.fst = y.fst ∧ z.fst = z.fst ∧ I_2 ((1 : Int), (0 : Int), ()) ()) ∧ ∀ (y_3 : Int × Int × Unit) (z_2 : Unit), Kd.wf (Kd.int IntKind.i64) y_3.fst ∧ Kd.wf
  (Kd.int IntKind.i64) y_3.snd.fst ∧ True → True → I_2 y_3 z_2 → (decide (y_3.fst < (12 : Int)) = true → (True ∧ (∀ (y_4 : List Int × Unit), Kd.wf Kd.str y_4.fst ∧ True → y_4.fst = labelK
  y_3.fst → ((decide (y_4.fst ≠ bs { data := #[] }) = true → (decide (y_4.fst ≠ bs { data := #[] }) == true) = true ∧ (decide (y_4.fst ≠ bs { data := #[] }) == true) = true ∧ ((0 : Int) ≤
  y_1.fst ∧ y_1.fst < (↑(List.length y.fst) : Int)) ∧ True) ∧ ((decide (y_4.fst ≠ bs { data := #[] }) = true → (decide (y_4.fst ≠ bs { data := #[] }) == true) = true ∧ True ∧ (∀ (y_5 : List
  Int × Unit), Kd.wf Kd.str y_5.fst ∧ True → y_5.fst = labelK y_3.fst → ((decide (y_4.fst ≠ bs { data := #[] }) == true) = true ∧ ((decide (y_4.fst ≠ bs { data := #[] }) == true) = true ∧ ((0
  : Int) ≤ y_2.fst ∧ y_2.fst ≤ (↑(List.length (List.getD y.fst (Int.toNat y_1.fst) (Kd.dft Kd.str))) : Int)) ∧ (((decide (y_5.fst = List.take (Int.toNat y_2.fst) (List.getD y.fst (Int.toNat
  y_1.fst) (Kd.dft Kd.str))) = true → Value.bool false = Value.bool false ∧ y_2.fst = y_2.fst ∧ Value.bool true = Value.bool true ∧ y_1.fst = y_1.fst ∧ Value.bool false = Value.bool false ∧
  (0 : Int) = (0 : Int) ∧ Value.slice none (0 : Nat) (0 : Nat) = Value.slice none (0 : Nat) (0 : Nat) ∧ x.fst = x.fst ∧ y.fst = y.fst ∧ z.fst = z.fst ∧ I_2 (IntKind.wrap IntKind.i64 (y_3.fst
  + (1 : Int)), y_3.fst, ()) () ∧ μ_2 (IntKind.wrap IntKind.i64 (y_3.fst + (1 : Int)), y_3.fst, ()) () < μ_2 y_3 z_2) ∧ (decide (y_5.fst = List.take (Int.toNat y_2.fst) (List.getD y.fst
  (Int.toNat y_1.fst) (Kd.dft Kd.str))) = false → Value.bool false = Value.bool false ∧ y_2.fst = y_2.fst ∧ Value.bool true = Value.bool true ∧ y_1.fst = y_1.fst ∧ Value.bool false =
  Value.bool false ∧ (0 : Int) = (0 : Int) ∧ Value.slice none (0 : Nat) (0 : Nat) = Value.slice none (0 : Nat) (0 : Nat) ∧ x.fst = x.fst ∧ y.fst = y.fst ∧ z.fst = z.fst ∧ I_2 (IntKind.wrap
  IntKind.i64 (y_3.fst + (1 : Int)), y_3.snd.fst, ()) () ∧ μ_2 (IntKind.wrap IntKind.i64 (y_3.fst + (1 : Int)), y_3.snd.fst, ()) () < μ_2 y_3 z_2)) ∧ True) ∧ True) ∧ True) ∧ True) ∧ True) ∧
  (decide (y_4.fst ≠ bs { data := #[] }) = !true → ((((Value.bool false = Value.bool false ∧ y_2.fst = y_2.fst ∧ Value.bool true = Value.bool true ∧ y_1.fst = y_1.fst ∧ Value.bool false =
  Value.bool false ∧ (0 : Int) = (0 : Int) ∧ Value.slice none (0 : Nat) (0 : Nat) = Value.slice none (0 : Nat) (0 : Nat) ∧ x.fst = x.fst ∧ y.fst = y.fst ∧ z.fst = z.fst ∧ I_2 (IntKind.wrap
  IntKind.i64 (y_3.fst + (1 : Int)), y_3.snd.fst, ()) () ∧ μ_2 (IntKind.wrap IntKind.i64 (y_3.fst + (1 : Int)), y_3.snd.fst, ()) () < μ_2 y_3 z_2) ∧ True) ∧ True) ∧ True) ∧ True)) ∧ ((decide
  (y_4.fst ≠ bs { data := #[] }) = true → (decide (y_4.fst ≠ bs { data := #[] }) == true) = true ∧ True) ∧ ((decide (y_4.fst ≠ bs { data := #[] }) = true → (decide (y_4.fst ≠ bs { data := #[]
  }) == true) = true ∧ True ∧ (∀ (y_5 : List Int × Unit), Kd.wf Kd.str y_5.fst ∧ True → y_5.fst = labelK y_3.fst → ((decide (y_4.fst ≠ bs { data := #[] }) == true) = true ∧ (decide (y_4.fst ≠
  bs { data := #[] }) == true) = true ∧ ((0 : Int) ≤ y_2.fst ∧ y_2.fst ≤ (↑(List.length (List.getD y.fst (Int.toNat y_1.fst) (Kd.dft Kd.str))) : Int)) ∧ (((decide (y_5.fst = List.take
  (Int.toNat y_2.fst) (List.getD y.fst (Int.toNat y_1.fst) (Kd.dft Kd.str))) = true → Value.bool false = Value.bool false ∧ y_2.fst = y_2.fst ∧ Value.bool true = Value.bool true ∧ y_1.fst =
  y_1.fst ∧ Value.bool false = Value.bool false ∧ (0 : Int) = (0 : Int) ∧ Value.slice none (0 : Nat) (0 : Nat) = Value.slice none (0 : Nat) (0 : Nat) ∧ x.fst = x.fst ∧ y.fst = y.fst ∧ z.fst =
  z.fst ∧ I_2 (IntKind.wrap IntKind.i64 (y_3.fst + (1 : Int)), y_3.fst, ()) () ∧ μ_2 (IntKind.wrap IntKind.i64 (y_3.fst + (1 : Int)), y_3.fst, ()) () < μ_2 y_3 z_2) ∧ (decide (y_5.fst =
  List.take (Int.toNat y_2.fst) (List.getD y.fst (Int.toNat y_1.fst) (Kd.dft Kd.str))) = false → Value.bool false = Value.bool false ∧ y_2.fst = y_2.fst ∧ Value.bool true = Value.bool true ∧
  y_1.fst = y_1.fst ∧ Value.bool false = Value.bool false ∧ (0 : Int) = (0 : Int) ∧ Value.slice none (0 : Nat) (0 : Nat) = Value.slice none (0 : Nat) (0 : Nat) ∧ x.fst = x.fst ∧ y.fst = y.fst
  ∧ z.fst = z.fst ∧ I_2 (IntKind.wrap IntKind.i64 (y_3.fst + (1 : Int)), y_3.snd.fst, ()) () ∧ μ_2 (IntKind.wrap IntKind.i64 (y_3.fst + (1 : Int)), y_3.snd.fst, ()) () < μ_2 y_3 z_2)) ∧ True)
  ∧ True) ∧ True) ∧ True) ∧ (decide (y_4.fst ≠ bs { data := #[] }) = !true → (((Value.bool false = Value.bool false ∧ y_2.fst = y_2.fst ∧ Value.bool true = Value.bool true ∧ y_1.fst = y_1.fst
  ∧ Value.bool false = Value.bool false ∧ (0 : Int) = (0 : Int) ∧ Value.slice none (0 : Nat) (0 : Nat) = Value.slice none (0 : Nat) (0 : Nat) ∧ x.fst = x.fst ∧ y.fst = y.fst ∧ z.fst = z.fst ∧
  I_2 (IntKind.wrap IntKind.i64 (y_3.fst + (1 : Int)), y_3.snd.fst, ()) () ∧ μ_2 (IntKind.wrap IntKind.i64 (y_3.fst + (1 : Int)), y_3.snd.fst, ()) () < μ_2 y_3 z_2) ∧ True) ∧ True) ∧ True)) ∧
  ((decide (y_4.fst ≠ bs { data := #[] }) = true → (decide (y_4.fst ≠ bs { data := #[] }) == true) = true ∧ (decide (y_4.fst ≠ bs { data := #[] }) == true) = true ∧ ((0 : Int) ≤ y_2.fst ∧
  y_2.fst ≤ (↑(List.length (List.getD y.fst (Int.toNat y_1.fst) (Kd.dft Kd.str))) : Int)) ∧ True) ∧ ((decide (y_4.fst ≠ bs { data := #[] }) = true → (decide (y_4.fst ≠ bs { data := #[] }) ==
  true) = true ∧ True ∧ (∀ (y_5 : List Int × Unit), Kd.wf Kd.str y_5.fst ∧ True → y_5.fst = labelK y_3.fst → ((decide (y_4.fst ≠ bs { data := #[] }) == true) = true ∧ ((decide (y_5.fst =
  List.take (Int.toNat y_2.fst) (List.getD y.fst (Int.toNat y_1.fst) (Kd.dft Kd.str))) = true → Value.bool false = Value.bool false ∧ y_2.fst = y_2.fst ∧ Value.bool true = Value.bool true ∧
  y_1.fst = y_1.fst ∧ Value.bool false = Value.bool false ∧ (0 : Int) = (0 : Int) ∧ Value.slice none (0 : Nat) (0 : Nat) = Value.slice none (0 : Nat) (0 : Nat) ∧ x.fst = x.fst ∧ y.fst = y.fst
  ∧ z.fst = z.fst ∧ I_2 (IntKind.wrap IntKind.i64 (y_3.fst + (1 : Int)), y_3.fst, ()) () ∧ μ_2 (IntKind.wrap IntKind.i64 (y_3.fst + (1 : Int)), y_3.fst, ()) () < μ_2 y_3 z_2) ∧ (decide
  (y_5.fst = List.take (Int.toNat y_2.fst) (List.getD y.fst (Int.toNat y_1.fst) (Kd.dft Kd.str))) = false → Value.bool false = Value.bool false ∧ y_2.fst = y_2.fst ∧ Value.bool true =
  Value.bool true ∧ y_1.fst = y_1.fst ∧ Value.bool false = Value.bool false ∧ (0 : Int) = (0 : Int) ∧ Value.slice none (0 : Nat) (0 : Nat) = Value.slice none (0 : Nat) (0 : Nat) ∧ x.fst =
  x.fst ∧ y.fst = y.fst ∧ z.fst = z.fst ∧ I_2 (IntKind.wrap IntKind.i64 (y_3.fst + (1 : Int)), y_3.snd.fst, ()) () ∧ μ_2 (IntKind.wrap IntKind.i64 (y_3.fst + (1 : Int)), y_3.snd.fst, ()) () <
  μ_2 y_3 z_2)) ∧ True) ∧ True) ∧ True) ∧ (decide (y_4.fst ≠ bs { data := #[] }) = !true → ((Value.bool false = Value.bool false ∧ y_2.fst = y_2.fst ∧ Value.bool true = Value.bool true ∧
  y_1.fst = y_1.fst ∧ Value.bool false = Value.bool false ∧ (0 : Int) = (0 : Int) ∧ Value.slice none (0 : Nat) (0 : Nat) = Value.slice none (0 : Nat) (0 : Nat) ∧ x.fst = x.fst ∧ y.fst = y.fst
  ∧ z.fst = z.fst ∧ I_2 (IntKind.wrap IntKind.i64 (y_3.fst + (1 : Int)), y_3.snd.fst, ()) () ∧ μ_2 (IntKind.wrap IntKind.i64 (y_3.fst + (1 : Int)), y_3.snd.fst, ()) () < μ_2 y_3 z_2) ∧ True)
  ∧ True)) ∧ True) ∧ True) ∧ True) ∧ True) ∧ True) ∧ True) ∧ (decide (y_3.fst < (12 : Int)) = false → ∃ (I_3 : Int × Unit → List Int × Unit → Prop), ∃ (μ_3 : Int × Unit → List Int × Unit →
  Nat), (Value.bool false = Value.bool false ∧ y_3.fst = y_3.fst ∧ y_3.snd.fst = y_3.snd.fst ∧ Value.bool false = Value.bool false ∧ y_2.fst = y_2.fst ∧ Value.bool true = Value.bool true ∧
  y_1.fst = y_1.fst ∧ Value.bool false = Value.bool false ∧ (0 : Int) = (0 : Int) ∧ Value.slice none (0 : Nat) (0 : Nat) = Value.slice none (0 : Nat) (0 : Nat) ∧ x.fst = x.fst ∧ y.fst = y.fst
  ∧ z.fst = z.fst ∧ I_3 (IntKind.wrap IntKind.i64 (y_2.fst + (1 : Int)), ()) ([], ())) ∧ ∀ (y_4 : Int × Unit) (z_3 : List Int × Unit), Kd.wf (Kd.int IntKind.i64) y_4.fst ∧ True → Kd.wf (Kd.sl
  (Kd.int IntKind.u8)) z_3.fst ∧ True → I_3 y_4 z_3 → ((0 : Int) ≤ y_1.fst ∧ y_1.fst < (↑(List.length y.fst) : Int)) ∧ (decide (y_4.fst < (↑(List.length (List.getD y.fst (Int.toNat y_1.fst)
  (Kd.dft Kd.str))) : Int)) = true → ∃ (J : Int × Unit → Unit → Prop), (((0 : Int) ≤ y_1.fst ∧ y_1.fst < (↑(List.length y.fst) : Int)) ∧ ((0 : Int) ≤ y_4.fst ∧ y_4.fst < (↑(List.length
  (List.getD y.fst (Int.toNat y_1.fst) (Kd.dft Kd.str))) : Int)) ∧ (decide (List.getD (List.getD y.fst (Int.toNat y_1.fst) (Kd.dft Kd.str)) (Int.toNat y_4.fst) (0 : Int) = (92 : Int)) = true
  → Value.bool true = Value.bool true ∧ Value.bool false = Value.bool false ∧ y_3.fst = y_3.fst ∧ y_3.snd.fst = y_3.snd.fst ∧ Value.bool false = Value.bool false ∧ y_2.fst = y_2.fst ∧
  Value.bool true = Value.bool true ∧ y_1.fst = y_1.fst ∧ Value.bool false = Value.bool false ∧ (0 : Int) = (0 : Int) ∧ Value.slice none (0 : Nat) (0 : Nat) = Value.slice none (0 : Nat) (0 :
  Nat) ∧ x.fst = x.fst ∧ y.fst = y.fst ∧ z.fst = z.fst ∧ z_3.fst = z_3.fst ∧ J (IntKind.wrap IntKind.i64 (y_4.fst + (1 : Int)), ()) ()) ∧ (decide (List.getD (List.getD y.fst (Int.toNat
  y_1.fst) (Kd.dft Kd.str)) (Int.toNat y_4.fst) (0 : Int) = (92 : Int)) = false → Value.bool true = Value.bool true ∧ Value.bool false = Value.bool false ∧ y_3.fst = y_3.fst ∧ y_3.snd.fst =
  y_3.snd.fst ∧ Value.bool false = Value.bool false ∧ y_2.fst = y_2.fst ∧ Value.bool true = Value.bool true ∧ y_1.fst = y_1.fst ∧ Value.bool false = Value.bool false ∧ (0 : Int) = (0 : Int) ∧
  Value.slice none (0 : Nat) (0 : Nat) = Value.slice none (0 : Nat) (0 : Nat) ∧ x.fst = x.fst ∧ y.fst = y.fst ∧ z.fst = z.fst ∧ z_3.fst = z_3.fst ∧ J (y_4.fst, ()) ())) ∧ ∀ (u : Int × Unit)
  (z_4 : Unit), Kd.wf (Kd.int IntKind.i64) u.fst ∧ True → True → J u z_4 → ((0 : Int) ≤ y_1.fst ∧ y_1.fst < (↑(List.length y.fst) : Int)) ∧ (decide (u.fst < (↑(List.length (List.getD y.fst
  (Int.toNat y_1.fst) (Kd.dft Kd.str))) : Int)) = true → ((0 : Int) ≤ y_1.fst ∧ y_1.fst < (↑(List.length y.fst) : Int)) ∧ ((0 : Int) ≤ u.fst ∧ u.fst < (↑(List.length (List.getD y.fst
  (Int.toNat y_1.fst) (Kd.dft Kd.str))) : Int)) ∧ (0 : Nat) < (1 : Nat) ∧ (List.length z_3.fst + List.length [List.getD (List.getD y.fst (Int.toNat y_1.fst) (Kd.dft Kd.str)) (Int.toNat u.fst)
  (0 : Int)]) * (1 : Nat) ≤ (140737488355328 : Nat) ∧ List.length z_3.fst + List.length [List.getD (List.getD y.fst (Int.toNat y_1.fst) (Kd.dft Kd.str)) (Int.toNat u.fst) (0 : Int)] ≤
  (9223372036854775807 : Nat) ∧ Value.bool false = Value.bool false ∧ y_3.fst = y_3.fst ∧ y_3.snd.fst = y_3.snd.fst ∧ Value.bool false = Value.bool false ∧ y_2.fst = y_2.fst ∧ Value.bool true
  = Value.bool true ∧ y_1.fst = y_1.fst ∧ Value.bool false = Value.bool false ∧ (0 : Int) = (0 : Int) ∧ Value.slice none (0 : Nat) (0 : Nat) = Value.slice none (0 : Nat) (0 : Nat) ∧ x.fst =
  x.fst ∧ y.fst = y.fst ∧ z.fst = z.fst ∧ I_3 (IntKind.wrap IntKind.i64 (u.fst + (1 : Int)), ()) (z_3.fst ++ [List.getD (List.getD y.fst (Int.toNat y_1.fst) (Kd.dft Kd.str)) (Int.toNat u.fst)
  (0 : Int)], ()) ∧ μ_3 (IntKind.wrap IntKind.i64 (u.fst + (1 : Int)), ()) (z_3.fst ++ [List.getD (List.getD y.fst (Int.toNat y_1.fst) (Kd.dft Kd.str)) (Int.toNat u.fst) (0 : Int)], ()) < μ_3
  y_4 z_3) ∧ (decide (u.fst < (↑(List.length (List.getD y.fst (Int.toNat y_1.fst) (Kd.dft Kd.str))) : Int)) = false → Value.bool false = Value.bool false ∧ y_3.fst = y_3.fst ∧ y_3.snd.fst =
  y_3.snd.fst ∧ Value.bool false = Value.bool false ∧ y_2.fst = y_2.fst ∧ Value.bool true = Value.bool true ∧ y_1.fst = y_1.fst ∧ Value.bool false = Value.bool false ∧ (0 : Int) = (0 : Int) ∧
  Value.slice none (0 : Nat) (0 : Nat) = Value.slice none (0 : Nat) (0 : Nat) ∧ x.fst = x.fst ∧ y.fst = y.fst ∧ z.fst = z.fst ∧ I_3 (IntKind.wrap IntKind.i64 (u.fst + (1 : Int)), ())
  (z_3.fst, ()) ∧ μ_3 (IntKind.wrap IntKind.i64 (u.fst + (1 : Int)), ()) (z_3.fst, ()) < μ_3 y_4 z_3)) ∧ (decide (y_4.fst < (↑(List.length (List.getD y.fst (Int.toNat y_1.fst) (Kd.dft
  Kd.str))) : Int)) = false → (0 : Nat) < (2 : Nat) ∧ (List.length z.fst + List.length [(y_3.snd.fst, z_3.fst)]) * (24 : Nat) ≤ (140737488355328 : Nat) ∧ List.length z.fst + List.length
  [(y_3.snd.fst, z_3.fst)] ≤ (9223372036854775807 : Nat) ∧ Value.bool false = Value.bool false ∧ (0 : Int) = (0 : Int) ∧ Value.slice none (0 : Nat) (0 : Nat) = Value.slice none (0 : Nat) (0 :
  Nat) ∧ x.fst = x.fst ∧ y.fst = y.fst ∧ I (IntKind.wrap IntKind.i64 (y_1.fst + (1 : Int)), ()) (z.fst ++ [(y_3.snd.fst, z_3.fst)], ()) ∧ μ (IntKind.wrap IntKind.i64 (y_1.fst + (1 : Int)),
  ()) (z.fst ++ [(y_3.snd.fst, z_3.fst)], ()) < μ y_1 z)))) ∧ (decide (y_1.fst < (↑(List.length y.fst) : Int)) = false → (List.length z.fst ≤ (1000000000 : Nat) ∧ ∀ (a : Int × List Int), a ∈
  z.fst → List.length a.snd ≤ (100000000 : Nat)) ∧ (∀ (y : List Int × Int × Unit), Kd.wf Kd.str y.fst ∧ Kd.wf (Kd.int IntKind.i64) y.snd.fst ∧ True → (y.fst, y.snd.fst) = TextN z.fst →
  (decide (y.snd.fst ≠ (0 : Int)) = false → True) ∧ (decide (y.snd.fst ≠ (0 : Int)) = false → True) ∧ (decide (y.snd.fst ≠ (0 : Int)) = false → (decide (y.snd.fst ≠ (0 : Int)) == false) =
  true ∧ (decide (y.snd.fst ≠ (0 : Int)) == false) = true ∧ True) ∧ (decide (y.snd.fst ≠ (0 : Int)) = false → (decide (y.snd.fst ≠ (0 : Int)) == false) = true) ∧ ((bif decide (y.snd.fst ≠ (0
  : Int)) then true else decide (y.fst ≠ x.fst)) = true → parN x.fst [] (120 : Int) = true) ∧ ((bif decide (y.snd.fst ≠ (0 : Int)) then true else decide (y.fst ≠ x.fst)) = false → parN x.fst
  z.fst (0 : Int) = true)) ∧ True)) ∧ True)
theorem e19 : t19 = Con.vc c_r12_Parse GL (mkEnv ty [(22, conSem c_r12_Parts), (40, conSem c_r12_Label), (28, conSem c_r12_Text)] [] [] [0, 2, 3, 4, 5, 6, 7, 8, 9, 10, 11, 12, 13, 15, 21, 39, 43, 59, 69, 78, 87, 115]) {joins := [23]} Tryd.f19.ntmps Tryd.f19.results.toList (bodyOf Tryd.f19) := by kernel_rfl
theorem k19 : t19 := by
  unfold t19
  rintro ⟨s, _⟩ hx hp
  have hp : s.length ≤ 10000000 := hp
  try dsimp +instances only [dft_int, dft_sl, dft_str]
  simp only [true_and, and_true, eq_self_iff_true, implies_true, reduceCtorEq, false_implies, true_implies, decide_eq_true_eq, decide_eq_false_iff_not, beq_self_eq_true, Bool.not_eq_true', ne_eq, Decidable.not_not, List.nil_append, List.length_singleton, List.length_cons, List.length_nil, Nat.zero_add, Nat.add_zero, Nat.mul_one, and_self, beq_iff_eq, Bool.not_true, Bool.not_false, Bool.not_eq_false', Bool.cond_false_right, Bool.and_eq_true, imp_self, Bool.not_eq_true, Bool.cond_true_left, Bool.or_eq_true]
  rw [bs_nil]
  refine ⟨fun h => by rw [h]; exact parN_iff.2 (.inl ⟨rfl, rfl, rfl⟩), fun hs => ⟨hp, ?_⟩⟩
  rintro ⟨L, _⟩ _ eL
  simp only at eL ⊢
  have hcnt := pcs_len s
  rw [← eL] at hcnt
  have hpl : ∀ p ∈ L, p.length ≤ s.length := fun p hm => parts_len (by rw [← eL]; exact hm)
  refine ⟨fun y z => 0 ≤ y.1 ∧ y.1 ≤ L.length ∧ z.1 = (L.take y.1.toNat).map gA, fun y _ => ((L.length : Int) - y.1).toNat, ⟨Int.le_refl 0, by simp only; omega, rfl⟩, ?_⟩
  rintro ⟨i, _⟩ ⟨n, _⟩ _ _ ⟨i0, i1, en⟩
  simp only at i0 i1 en ⊢
  have hnl : n.length ≤ L.length := by rw [en, List.length_map, List.length_take]; omega
  refine ⟨fun hlt => ?_, fun hge => ?_⟩
  · have hm := hpl _ (mem_getD [] L i.toNat (by omega))
    have hst : (L.take (i.toNat + 1)).map gA = n ++ [gA (L.getD i.toNat [])] := by rw [take_snocA [] L i.toNat (by omega), List.map_append, ← en]; rfl
    generalize L.getD i.toNat [] = p at hm hst
    refine ⟨fun y _ => 0 ≤ y.1 ∧ y.1 ≤ p.length ∧ ∀ j, j < y.1.toNat → p.getD j 0 ≠ 61, fun y _ => ((p.length : Int) - y.1).toNat, ⟨Int.le_refl 0, by simp only; omega, fun j hj => by simp at hj⟩, ?_⟩
    rintro ⟨a, _⟩ _ _ ⟨a0, a1, ha⟩
    simp only at a0 a1 ha ⊢
    refine ⟨⟨i0, hlt⟩, fun h => ⟨h, h, i0, hlt⟩, fun h => ⟨h, h, a0, h⟩, fun h => ?_, fun h => ?_⟩
    · rw [wrapK (a + 1) (by omega) (by omega)]
      refine ⟨⟨by omega, by omega, fun j hj => ?_⟩, by omega⟩
      by_cases hj2 : j < a.toNat
      · exact ha j hj2
      · rw [show j = a.toNat by omega]; exact h.2
    · have hw : (cutD 61 p).1 = p.take a.toNat := eq_before ha (by omega) (by
        simp only [Bool.and_eq_false_iff, decide_eq_false_iff_not, Decidable.not_not] at h
        omega)
      rw [← hw]
      have hal : (cutD 61 p).1.length = a.toNat := by rw [hw, List.length_take]; omega
      refine ⟨fun y _ => 1 ≤ y.1 ∧ y.1 ≤ 12 ∧ y.2.1 = if 1 ≤ typK (cutD 61 p).1 ∧ typK (cutD 61 p).1 < y.1 then typK (cutD 61 p).1 else 0, fun y _ => (12 - y.1).toNat, ⟨by decide, by decide, by rw [if_neg (by simp only; omega)]⟩, ?_⟩
      rintro ⟨k, r, _⟩ _ _ ⟨k0, k1, er⟩
      simp only at k0 k1 er ⊢
      refine ⟨fun hk => ?_, fun hk => ?_⟩
      · have b0 : 0 ≤ i ∧ i < (L.length : Int) := ⟨i0, hlt⟩
        have b1 : 0 ≤ a ∧ a ≤ (p.length : Int) := ⟨a0, a1⟩
        rw [wrapK (k + 1) (by omega) (by omega)]
        have S1 : labelK k ≠ [] → labelK k = (cutD 61 p).1 → (1 ≤ k + 1 ∧ k + 1 ≤ 12 ∧ k = if 1 ≤ typK (cutD 61 p).1 ∧ typK (cutD 61 p).1 < k + 1 then typK (cutD 61 p).1 else 0) ∧ (12 - (k + 1)).toNat < (12 - k).toNat := fun h1 h2 => by
          have := typ_label h1
          rw [h2] at this
          refine ⟨⟨by omega, by omega, ?_⟩, by omega⟩
          rw [this, if_pos (by omega)]
        have S0 : typK (cutD 61 p).1 ≠ k → (1 ≤ k + 1 ∧ k + 1 ≤ 12 ∧ r = if 1 ≤ typK (cutD 61 p).1 ∧ typK (cutD 61 p).1 < k + 1 then typK (cutD 61 p).1 else 0) ∧ (12 - (k + 1)).toNat < (12 - k).toNat := fun h1 => by
          refine ⟨⟨by omega, by omega, ?_⟩, by omega⟩
          rw [er]
          by_cases hc : 1 ≤ typK (cutD 61 p).1 ∧ typK (cutD 61 p).1 < k
          · rw [if_pos hc, if_pos (by omega)]
          · rw [if_neg hc, if_neg (by omega)]
        have S2 : labelK k ≠ (cutD 61 p).1 → typK (cutD 61 p).1 ≠ k := fun h1 h2 => h1 (by
          rw [← h2]; exact (typ_range (by omega)).2.2.1)
        have S3 : labelK k = [] → typK (cutD 61 p).1 ≠ k := fun h1 h2 => (typ_range (s := (cutD 61 p).1) (by omega)).2.2.2 (by
          rw [← (typ_range (s := (cutD 61 p).1) (by omega)).2.2.1, h2, h1])
        rintro ⟨l, _⟩ _ el
        simp only at el ⊢
        subst el
        have two : labelK k ≠ [] → ∀ y : List Int × Unit, Kd.str.wf y.1 → y.1 = labelK k → (y.1 = (cutD 61 p).1 → _) ∧ (¬ y.1 = (cutD 61 p).1 → _) := fun h1 y _ e => ⟨fun h => S1 h1 (e.symm.trans h), fun h => S0 (S2 fun h2 => h (e.trans h2))⟩
        exact ⟨fun h => ⟨h, h, b0⟩, ⟨fun h => ⟨h, fun y hy e => ⟨h, h, b1, two h y hy e⟩⟩, fun h => S0 (S3 h)⟩, ⟨fun h => ⟨h, fun y hy e => ⟨h, h, b1, two h y hy e⟩⟩, fun h => S0 (S3 h)⟩, fun h => ⟨h, h, b1⟩, fun h => ⟨h, fun y hy e => ⟨h, two h y hy e⟩⟩, fun h => S0 (S3 h)⟩
      · have er2 : r = typK (cutD 61 p).1 := by
          rw [er]
          by_cases hz : typK (cutD 61 p).1 = 0
          · rw [hz]; split <;> rfl
          · have := typ_range hz
            rw [if_pos (by omega)]
        rw [wrapK (a + 1) (by omega) (by omega)]
        refine ⟨fun y z => a + 1 ≤ y.1 ∧ y.1 ≤ p.length + 1 ∧ (z.1 : List Int).length ≤ y.1 ∧ looseD (p.drop (a.toNat + 1)) = z.1 ++ looseD (p.drop y.1.toNat), fun y _ => ((p.length : Int) + 1 - y.1).toNat, ⟨Int.le_refl _, by simp only; omega, by simp only [List.length_nil]; omega, by simp only; rw [show (a + 1).toNat = a.toNat + 1 by omega]; rfl⟩, ?_⟩
        rintro ⟨k, _⟩ ⟨v, _⟩ _ _ ⟨c0, c1, c2, ec⟩
        simp only at c0 c1 c2 ec ⊢
        refine ⟨⟨i0, hlt⟩, fun hkl => ?_, fun hkl => ?_⟩
        · have hdk := drop_cons p k.toNat (by omega)
          refine ⟨fun u _ => u.1 = if p.getD k.toNat 0 = 92 then k + 1 else k, ⟨⟨i0, hlt⟩, ⟨by omega, hkl⟩, fun hc => ?_, fun hc => ?_⟩, ?_⟩
          · rw [wrapK (k + 1) (by omega) (by omega), if_pos hc]
          · rw [if_neg hc]
          · rintro ⟨u, _⟩ _ _ eu
            simp only at eu ⊢
            by_cases hc : p.getD k.toNat 0 = 92
            · rw [if_pos hc] at eu
              subst eu
              rw [wrapK (k + 1 + 1) (by omega) (by omega)]
              rw [hdk, hc] at ec
              refine ⟨⟨i0, hlt⟩, fun hk1 => ⟨⟨i0, hlt⟩, ⟨by omega, hk1⟩, by decide, by omega, by omega, ⟨by omega, by omega, by rw [List.length_append, List.length_singleton]; omega, ?_⟩, by omega⟩, fun hk1 => ⟨⟨by omega, by omega, by omega, ?_⟩, by omega⟩⟩
              · rw [ec, drop_cons p (k.toNat + 1) (by omega), loose_two, show k.toNat + 1 = (k + 1).toNat by omega, show (k + 1).toNat + 1 = (k + 1 + 1).toNat by omega]
                simp
              · rw [ec, List.drop_of_length_le (l := p) (i := k.toNat + 1) (by omega), List.drop_of_length_le (by omega)]
                rfl
            · rw [if_neg hc] at eu
              subst eu
              rw [wrapK (u + 1) (by omega) (by omega)]
              rw [hdk, loose_one hc] at ec
              refine ⟨⟨i0, hlt⟩, fun hk1 => ⟨⟨i0, hlt⟩, ⟨by omega, hk1⟩, by decide, by omega, by omega, ⟨by omega, by omega, by rw [List.length_append, List.length_singleton]; omega, ?_⟩, by omega⟩, fun hk1 => absurd hkl hk1⟩
              rw [ec, show u.toNat + 1 = (u + 1).toNat by omega]
              simp
        · rw [List.drop_of_length_le (l := p) (i := k.toNat) (by omega)] at ec
          rw [wrapK (i + 1) (by omega) (by omega)]
          refine ⟨by decide, by omega, by omega, ⟨by omega, by omega, ?_⟩, by omega⟩
          rw [show (i + 1).toNat = i.toNat + 1 by omega, hst, gA, hal, ec, er2]
          simp [looseD]
  · have hnA : ∀ x ∈ n, x.2.length ≤ 100000000 := fun x hx => by
      rw [en] at hx
      obtain ⟨p, hp2, rfl⟩ := List.mem_map.1 hx
      have h1 := hpl p (List.mem_of_mem_take hp2)
      have h2 := loose_len (p.drop ((cutD 61 p).1.length + 1))
      rw [List.length_drop] at h2
      show (looseD _).length ≤ _
      omega
    have enL : n = (partsE s).map gA := by rw [en, List.take_of_length_le (by omega), eL]
    refine ⟨⟨by omega, hnA⟩, ?_⟩
    rintro ⟨t, e, _⟩ _ hT
    simp only at hT ⊢
    have hg := guess_par hs
    rw [← enL, ← hT] at hg
    refine ⟨fun h => ?_, fun h => ?_⟩
    · rwa [if_neg (fun h2 => by obtain ⟨rfl, rfl⟩ := Prod.mk.inj h2; exact h.elim (fun h => h rfl) (fun h => h rfl)), if_neg (fun h2 => by obtain ⟨rfl, rfl⟩ := Prod.mk.inj h2; exact h.elim (fun h => h rfl) (fun h => h rfl))] at hg
    · simp only [Bool.or_eq_false_iff, decide_eq_false_iff_not, Decidable.not_not] at h
      obtain ⟨rfl, rfl⟩ := h
      rwa [if_pos rfl, if_pos rfl] at hg
theorem h19 : c_r12_Parse.ok Tryd.prog GL 19 := con_ok (H := {joins := [23]}) (mkEnv_ok (gl := GL) (l := [(22, conSem c_r12_Parts), (40, conSem c_r12_Label), (28, conSem c_r12_Text)]) (q := []) (d := []) _ tyOk (by kernel_rfl) ⟨h22.call, h40.call, h28.call, trivial⟩ trivial trivial) (by kernel_rfl) (by kernel_rfl) (Eq.mp e19 k19)

def t20 : Prop :=
  ∀ (x : List (Int × List Int) × List (Int × List Int) × List (Int × List Int) × Unit), Kd.wf (Kd.sl (Kd.pair (Kd.int IntKind.i64) Kd.str)) x.fst ∧ Kd.wf (Kd.sl (Kd.pair (Kd.int IntKind.i64)
  Kd.str)) x.snd.fst ∧ Kd.wf (Kd.sl (Kd.pair (Kd.int IntKind.i64) Kd.str)) x.snd.snd.fst ∧ True → lenA x.fst ≤ (1000 : Nat) ∧ lenA x.snd.fst ≤ (1000 : Nat) ∧ lenA x.snd.snd.fst ≤ (1000 : Nat)
  → (List.length x.fst ≤ (1000000000 : Nat) ∧ List.length x.snd.snd.fst ≤ (1000000000 : Nat)) ∧ (∀ (y : Bool × Unit), Kd.wf Kd.bool y.fst ∧ True → y.fst = decide (x.fst = x.snd.snd.fst) →
  ((!y.fst) = true → x.fst = x.snd.snd.fst → x.snd.fst = x.snd.snd.fst → false = true) ∧ ((!y.fst) = false → ∃ (I : Int × Unit → List (Int × List Int) × Unit → Prop), ∃ (μ : Int × Unit → List
  (Int × List Int) × Unit → Nat), (Value.bool false = Value.bool false ∧ Value.bool false = Value.bool false ∧ x.snd.fst = x.snd.fst ∧ x.snd.snd.fst = x.snd.snd.fst ∧ I ((0 : Int), ())
  (x.fst, ())) ∧ ∀ (y : Int × Unit) (z : List (Int × List Int) × Unit), Kd.wf (Kd.int IntKind.i64) y.fst ∧ True → Kd.wf (Kd.sl (Kd.pair (Kd.int IntKind.i64) Kd.str)) z.fst ∧ True → I y z →
  (decide (y.fst < (↑(List.length z.fst) : Int)) = true → ((0 : Int) ≤ y.fst ∧ y.fst < (↑(List.length z.fst) : Int)) ∧ Value.bool false = Value.bool false ∧ Value.bool false = Value.bool
  false ∧ x.snd.fst = x.snd.fst ∧ x.snd.snd.fst = x.snd.snd.fst ∧ I (IntKind.wrap IntKind.i64 (y.fst + (1 : Int)), ()) (List.set z.fst (Int.toNat y.fst) ((-1 : Int), (List.getD z.fst
  (Int.toNat y.fst) (Kd.dft (Kd.pair (Kd.int IntKind.i64) Kd.str))).snd), ()) ∧ μ (IntKind.wrap IntKind.i64 (y.fst + (1 : Int)), ()) (List.set z.fst (Int.toNat y.fst) ((-1 : Int), (List.getD
  z.fst (Int.toNat y.fst) (Kd.dft (Kd.pair (Kd.int IntKind.i64) Kd.str))).snd), ()) < μ y z) ∧ (decide (y.fst < (↑(List.length z.fst) : Int)) = false → (0 : Nat) < (2 : Nat) ∧ (List.length
  z.fst + (2 : Nat)) * (24 : Nat) ≤ (140737488355328 : Nat) ∧ List.length z.fst + (2 : Nat) ≤ (9223372036854775807 : Nat) ∧ (List.length x.snd.fst ≤ (1000000000 : Nat) ∧ List.length
  x.snd.snd.fst ≤ (1000000000 : Nat)) ∧ (∀ (y : Bool × Unit), Kd.wf Kd.bool y.fst ∧ True → y.fst = decide (x.snd.fst = x.snd.snd.fst) → x.fst = x.snd.snd.fst → x.snd.fst = x.snd.snd.fst →
  y.fst = true) ∧ True))) ∧ True
theorem e20 : t20 = Con.vc c_law12_own GL (mkEnv ty [(34, conSem c_r12_Alike)] [] [] [0, 1, 2, 6, 7, 11, 15]) {} Tryd.f20.ntmps Tryd.f20.results.toList (bodyOf Tryd.f20) := by kernel_rfl
theorem k20 : t20 := by
  unfold t20
  rintro ⟨a, b, c, _⟩ hx hp
  obtain ⟨h1, h2, h3⟩ := hp
  simp only [lenA] at h1 h2 h3
  try dsimp +instances only [dft_int, dft_sl, dft_str]
  simp only [true_and, and_true, eq_self_iff_true, implies_true, reduceCtorEq, false_implies, true_implies, decide_eq_true_eq, decide_eq_false_iff_not, beq_self_eq_true, Bool.not_eq_true', ne_eq, Decidable.not_not, List.nil_append, List.length_singleton, List.length_cons, List.length_nil, Nat.zero_add, Nat.add_zero, Nat.mul_one, and_self, beq_iff_eq, Bool.not_true, Bool.not_false, Bool.not_eq_false', Bool.cond_false_right, Bool.and_eq_true, imp_self, Bool.not_eq_true, Bool.cond_true_left, Bool.or_eq_true]
  refine ⟨⟨by omega, by omega⟩, ?_⟩
  rintro ⟨q, _⟩ _ eq
  simp only at eq ⊢
  refine ⟨fun hf e _ => (by rw [eq, decide_eq_true e] at hf; cases hf), fun _ => ?_⟩
  refine ⟨fun y z => 0 ≤ y.1 ∧ (z.1 : List AttrT).length = a.length, fun y z => (((z.1 : List AttrT).length : Int) - y.1).toNat, ⟨Int.le_refl 0, rfl⟩, ?_⟩
  rintro ⟨i, _⟩ ⟨z, _⟩ _ _ ⟨i0, hz⟩
  simp only at i0 hz ⊢
  refine ⟨fun hlt => ?_, fun _ => ⟨by decide, by omega, by omega, ⟨by omega, by omega⟩, ?_⟩⟩
  · rw [wrapK (i + 1) (by omega) (by omega)]
    exact ⟨⟨i0, hlt⟩, ⟨by omega, by rw [List.length_set]; exact hz⟩, by rw [List.length_set]; omega⟩
  · rintro ⟨y, _⟩ _ ey _ e2
    simp only at ey ⊢
    rw [ey, decide_eq_true e2]
theorem h20 : c_law12_own.ok Tryd.prog GL 20 := con_ok (H := {}) (mkEnv_ok (gl := GL) (l := [(34, conSem c_r12_Alike)]) (q := []) (d := []) _ tyOk (by kernel_rfl) ⟨h34.call, trivial⟩ trivial trivial) (by kernel_rfl) (by kernel_rfl) (Eq.mp e20 k20)

end Go.Proofs.YtcaekpbmmbfeiaaDoor
end
section
/- Contracts. -/
namespace Go.Proofs.YtcaekpbmmbfeiaaDoor
open Go Go.Vc Go.Pl Go.Proofs
def c_law12_NameParses : Con := { args := [.dat .str, .dat I64], res := [.dat .bool], pre := fun x => ABulk [.dat .str, .dat I64] x ≤ 1048576, post := fun _ y => y.1 = true }

end Go.Proofs.YtcaekpbmmbfeiaaDoor
end
section
/- Walks. -/
namespace Go.Proofs.YtcaekpbmmbfeiaaDoor
open Go Go.Vc Go.Pl Go.Proofs
set_option linter.unusedVariables false
set_option linter.unusedSimpArgs false
def t5 : Prop :=
  ∀ (x : List Int × Int × Unit), Kd.wf Kd.str x.fst ∧ Kd.wf (Kd.int IntKind.i64) x.snd.fst ∧ True → ABulk [AK.dat Kd.str, AK.dat (Kd.int IntKind.i64)] x ≤ (1048576 : Nat) → List.length
  [SV.dat (Kd.int IntKind.i64) x.snd.fst] ≤ (65536 : Nat) ∧ (1 : Nat) ≤ (65536 : Nat) ∧ List.length x.fst ≤ (10000000 : Nat) ∧ (∀ (y : List (Int × List Int) × Int × Unit), Kd.wf (Kd.sl
  (Kd.pair (Kd.int IntKind.i64) Kd.str)) y.fst ∧ Kd.wf (Kd.int IntKind.i64) y.snd.fst ∧ True → parN x.fst y.fst y.snd.fst = true → List.length x.fst ≤ (10000000 : Nat) ∧ (∀ (y_1 : List (Int ×
  List Int) × Int × Unit), Kd.wf (Kd.sl (Kd.pair (Kd.int IntKind.i64) Kd.str)) y_1.fst ∧ Kd.wf (Kd.int IntKind.i64) y_1.snd.fst ∧ True → parN x.fst y_1.fst y_1.snd.fst = true → List.length
  x.fst ≤ (10000000 : Nat) ∧ (∀ (y_2 : List (Int × List Int) × Int × Unit), Kd.wf (Kd.sl (Kd.pair (Kd.int IntKind.i64) Kd.str)) y_2.fst ∧ Kd.wf (Kd.int IntKind.i64) y_2.snd.fst ∧ True → parN
  x.fst y_2.fst y_2.snd.fst = true → (decide (y.snd.fst ≠ y_2.snd.fst) = false → True) ∧ (decide (y.snd.fst ≠ y_2.snd.fst) = false → True) ∧ (decide (y.snd.fst ≠ y_2.snd.fst) = false → True)
  ∧ (decide (y.snd.fst ≠ y_2.snd.fst) = false → (decide (y.snd.fst ≠ y_2.snd.fst) == false) = true ∧ (decide (y.snd.fst ≠ y_2.snd.fst) == false) = true ∧ (decide (y.snd.fst ≠ y_2.snd.fst) ==
  false) = true ∧ (lenA y.fst ≤ (1000 : Nat) ∧ lenA y_1.fst ≤ (1000 : Nat) ∧ lenA y_2.fst ≤ (1000 : Nat)) ∧ (∀ (y_3 : Bool × Unit), Kd.wf Kd.bool y_3.fst ∧ True → (y.fst = y_2.fst → y_1.fst =
  y_2.fst → y_3.fst = true) → ((!y_3.fst) = true → false = true) ∧ ((!y_3.fst) = false → List.length [SV.dat Kd.str x.fst] ≤ (65536 : Nat) ∧ List.length x.fst ≤ (10000000 : Nat) ∧ (∀ (y_4 :
  List (List Int) × Unit), Kd.wf (Kd.sl Kd.str) y_4.fst ∧ True → y_4.fst = partsE x.fst → (1 : Nat) ≤ (65536 : Nat) ∧ (1 : Nat) ≤ (65536 : Nat) ∧ ∃ (J : Unit → (Int × Unit) × (Bool × Unit) ×
  List (Int × List Int) × List (Int × List Int) × (List Int × Unit) × List (List Int) × Unit × (Int × Unit) × Unit → Prop), (∃ (I : Int × Int × Unit → (Int × Unit) × (Bool × Unit) × List (Int
  × List Int) × List (Int × List Int) × (List Int × Unit) × List (List Int) × Unit × (Int × Unit) × Unit → Prop), ∃ (μ : Int × Int × Unit → (Int × Unit) × (Bool × Unit) × List (Int × List
  Int) × List (Int × List Int) × (List Int × Unit) × List (List Int) × Unit × (Int × Unit) × Unit → Nat), (Value.bool false = Value.bool false ∧ Value.bool false = Value.bool false ∧
  y_2.snd.fst = y_2.snd.fst ∧ y.snd.fst = y.snd.fst ∧ x.fst = x.fst ∧ x.snd.fst = x.snd.fst ∧ I ((0 : Int), (0 : Int), ()) ((x.snd.fst, ()), (false, ()), y_1.fst, y_2.fst, (x.fst, ()),
  y_4.fst, (), ((0 : Int), ()), ())) ∧ ∀ (y_5 : Int × Int × Unit) (z : (Int × Unit) × (Bool × Unit) × List (Int × List Int) × List (Int × List Int) × (List Int × Unit) × List (List Int) ×
  Unit × (Int × Unit) × Unit), Kd.wf (Kd.int IntKind.i64) y_5.fst ∧ Kd.wf (Kd.int IntKind.i64) y_5.snd.fst ∧ True → (Kd.wf (Kd.int IntKind.i64) z.fst.fst ∧ True) ∧ (Kd.wf Kd.bool
  z.snd.fst.fst ∧ True) ∧ Kd.wf (Kd.sl (Kd.pair (Kd.int IntKind.i64) Kd.str)) z.snd.snd.fst ∧ Kd.wf (Kd.sl (Kd.pair (Kd.int IntKind.i64) Kd.str)) z.snd.snd.snd.fst ∧ (Kd.wf Kd.str
  z.snd.snd.snd.snd.fst.fst ∧ True) ∧ Kd.wf (Kd.sl Kd.str) z.snd.snd.snd.snd.snd.fst ∧ True ∧ (Kd.wf (Kd.int IntKind.i64) z.snd.snd.snd.snd.snd.snd.snd.fst.fst ∧ True) ∧ True → I y_5 z →
  (decide (y_5.fst < (↑(List.length z.snd.snd.snd.snd.fst.fst) : Int)) = true → ((0 : Int) ≤ y_5.fst ∧ y_5.fst < (↑(List.length z.snd.snd.snd.snd.fst.fst) : Int)) ∧ (decide (List.getD
  z.snd.snd.snd.snd.fst.fst (Int.toNat y_5.fst) (0 : Int) = (92 : Int)) = true → Value.bool false = Value.bool false ∧ Value.bool false = Value.bool false ∧ y_2.snd.fst = y_2.snd.fst ∧
  y.snd.fst = y.snd.fst ∧ x.fst = x.fst ∧ x.snd.fst = x.snd.fst ∧ I (IntKind.wrap IntKind.i64 (IntKind.wrap IntKind.i64 (y_5.fst + (1 : Int)) + (1 : Int)), y_5.snd.fst, ()) ((z.fst.fst, ()),
  (z.snd.fst.fst, ()), z.snd.snd.fst, z.snd.snd.snd.fst, (z.snd.snd.snd.snd.fst.fst, ()), z.snd.snd.snd.snd.snd.fst, (), (z.snd.snd.snd.snd.snd.snd.snd.fst.fst, ()), ()) ∧ μ (IntKind.wrap
  IntKind.i64 (IntKind.wrap IntKind.i64 (y_5.fst + (1 : Int)) + (1 : Int)), y_5.snd.fst, ()) ((z.fst.fst, ()), (z.snd.fst.fst, ()), z.snd.snd.fst, z.snd.snd.snd.fst,
  (z.snd.snd.snd.snd.fst.fst, ()), z.snd.snd.snd.snd.snd.fst, (), (z.snd.snd.snd.snd.snd.snd.snd.fst.fst, ()), ()) < μ y_5 z) ∧ (decide (List.getD z.snd.snd.snd.snd.fst.fst (Int.toNat
  y_5.fst) (0 : Int) = (92 : Int)) = false → (decide (List.getD z.snd.snd.snd.snd.fst.fst (Int.toNat y_5.fst) (0 : Int) = (44 : Int)) = true → ((0 : Int) ≤ y_5.snd.fst ∧ y_5.snd.fst ≤ y_5.fst
  ∧ y_5.fst ≤ (↑(List.length z.snd.snd.snd.snd.fst.fst) : Int)) ∧ (decide (z.snd.snd.snd.snd.snd.snd.snd.fst.fst = z.fst.fst) = true → Value.bool false = Value.bool false ∧ Value.bool false =
  Value.bool false ∧ y_2.snd.fst = y_2.snd.fst ∧ y.snd.fst = y.snd.fst ∧ x.fst = x.fst ∧ x.snd.fst = x.snd.fst ∧ J () ((z.fst.fst, ()), (z.snd.fst.fst, ()), z.snd.snd.fst, z.snd.snd.snd.fst,
  (z.snd.snd.snd.snd.fst.fst, ()), z.snd.snd.snd.snd.snd.fst, (), (z.snd.snd.snd.snd.snd.snd.snd.fst.fst, ()), ())) ∧ (decide (z.snd.snd.snd.snd.snd.snd.snd.fst.fst = z.fst.fst) = false →
  Value.bool false = Value.bool false ∧ Value.bool false = Value.bool false ∧ y_2.snd.fst = y_2.snd.fst ∧ y.snd.fst = y.snd.fst ∧ x.fst = x.fst ∧ x.snd.fst = x.snd.fst ∧ I (IntKind.wrap
  IntKind.i64 (y_5.fst + (1 : Int)), IntKind.wrap IntKind.i64 (y_5.fst + (1 : Int)), ()) ((z.fst.fst, ()), (z.snd.fst.fst, ()), z.snd.snd.fst, z.snd.snd.snd.fst, (z.snd.snd.snd.snd.fst.fst,
  ()), z.snd.snd.snd.snd.snd.fst, (), (IntKind.wrap IntKind.i64 (z.snd.snd.snd.snd.snd.snd.snd.fst.fst + (1 : Int)), ()), ()) ∧ μ (IntKind.wrap IntKind.i64 (y_5.fst + (1 : Int)), IntKind.wrap
  IntKind.i64 (y_5.fst + (1 : Int)), ()) ((z.fst.fst, ()), (z.snd.fst.fst, ()), z.snd.snd.fst, z.snd.snd.snd.fst, (z.snd.snd.snd.snd.fst.fst, ()), z.snd.snd.snd.snd.snd.fst, (), (IntKind.wrap
  IntKind.i64 (z.snd.snd.snd.snd.snd.snd.snd.fst.fst + (1 : Int)), ()), ()) < μ y_5 z)) ∧ (decide (List.getD z.snd.snd.snd.snd.fst.fst (Int.toNat y_5.fst) (0 : Int) = (44 : Int)) = false →
  Value.bool false = Value.bool false ∧ Value.bool false = Value.bool false ∧ y_2.snd.fst = y_2.snd.fst ∧ y.snd.fst = y.snd.fst ∧ x.fst = x.fst ∧ x.snd.fst = x.snd.fst ∧ I (IntKind.wrap
  IntKind.i64 (y_5.fst + (1 : Int)), y_5.snd.fst, ()) ((z.fst.fst, ()), (z.snd.fst.fst, ()), z.snd.snd.fst, z.snd.snd.snd.fst, (z.snd.snd.snd.snd.fst.fst, ()), z.snd.snd.snd.snd.snd.fst, (),
  (z.snd.snd.snd.snd.snd.snd.snd.fst.fst, ()), ()) ∧ μ (IntKind.wrap IntKind.i64 (y_5.fst + (1 : Int)), y_5.snd.fst, ()) ((z.fst.fst, ()), (z.snd.fst.fst, ()), z.snd.snd.fst,
  z.snd.snd.snd.fst, (z.snd.snd.snd.snd.fst.fst, ()), z.snd.snd.snd.snd.snd.fst, (), (z.snd.snd.snd.snd.snd.snd.snd.fst.fst, ()), ()) < μ y_5 z))) ∧ (decide (y_5.fst < (↑(List.length
  z.snd.snd.snd.snd.fst.fst) : Int)) = false → ((0 : Int) ≤ y_5.snd.fst ∧ y_5.snd.fst ≤ (↑(List.length z.snd.snd.snd.snd.fst.fst) : Int)) ∧ (decide (z.snd.snd.snd.snd.snd.snd.snd.fst.fst =
  z.fst.fst) = true → Value.bool false = Value.bool false ∧ Value.bool false = Value.bool false ∧ y_2.snd.fst = y_2.snd.fst ∧ y.snd.fst = y.snd.fst ∧ x.fst = x.fst ∧ x.snd.fst = x.snd.fst ∧ J
  () ((z.fst.fst, ()), (z.snd.fst.fst, ()), z.snd.snd.fst, z.snd.snd.snd.fst, (z.snd.snd.snd.snd.fst.fst, ()), z.snd.snd.snd.snd.snd.fst, (), (z.snd.snd.snd.snd.snd.snd.snd.fst.fst, ()), ()))
  ∧ (decide (z.snd.snd.snd.snd.snd.snd.snd.fst.fst = z.fst.fst) = false → Value.bool false = Value.bool false ∧ Value.bool false = Value.bool false ∧ y_2.snd.fst = y_2.snd.fst ∧ y.snd.fst =
  y.snd.fst ∧ x.fst = x.fst ∧ x.snd.fst = x.snd.fst ∧ J () ((z.fst.fst, ()), (z.snd.fst.fst, ()), z.snd.snd.fst, z.snd.snd.snd.fst, (z.snd.snd.snd.snd.fst.fst, ()), z.snd.snd.snd.snd.snd.fst,
  (), (IntKind.wrap IntKind.i64 (z.snd.snd.snd.snd.snd.snd.snd.fst.fst + (1 : Int)), ()), ())))) ∧ ∀ (u : Unit) (z : (Int × Unit) × (Bool × Unit) × List (Int × List Int) × List (Int × List
  Int) × (List Int × Unit) × List (List Int) × Unit × (Int × Unit) × Unit), True → (Kd.wf (Kd.int IntKind.i64) z.fst.fst ∧ True) ∧ (Kd.wf Kd.bool z.snd.fst.fst ∧ True) ∧ Kd.wf (Kd.sl (Kd.pair
  (Kd.int IntKind.i64) Kd.str)) z.snd.snd.fst ∧ Kd.wf (Kd.sl (Kd.pair (Kd.int IntKind.i64) Kd.str)) z.snd.snd.snd.fst ∧ (Kd.wf Kd.str z.snd.snd.snd.snd.fst.fst ∧ True) ∧ Kd.wf (Kd.sl Kd.str)
  z.snd.snd.snd.snd.snd.fst ∧ True ∧ (Kd.wf (Kd.int IntKind.i64) z.snd.snd.snd.snd.snd.snd.snd.fst.fst ∧ True) ∧ True → J u z → ∃ (I : Int × Int × Unit → (Int × Unit) × (Bool × Unit) × List
  (Int × List Int) × List (Int × List Int) × (List Int × Unit) × List (List Int) × Unit × (Int × Unit) × Unit → Prop), ∃ (μ : Int × Int × Unit → (Int × Unit) × (Bool × Unit) × List (Int ×
  List Int) × List (Int × List Int) × (List Int × Unit) × List (List Int) × Unit × (Int × Unit) × Unit → Nat), (Value.bool false = Value.bool false ∧ Value.bool false = Value.bool false ∧
  y_2.snd.fst = y_2.snd.fst ∧ y.snd.fst = y.snd.fst ∧ x.fst = x.fst ∧ x.snd.fst = x.snd.fst ∧ I ((0 : Int), (0 : Int), ()) ((z.fst.fst, ()), (z.snd.fst.fst, ()), z.snd.snd.fst,
  z.snd.snd.snd.fst, (z.snd.snd.snd.snd.fst.fst, ()), z.snd.snd.snd.snd.snd.fst, (), ((0 : Int), ()), ())) ∧ ∀ (y_5 : Int × Int × Unit) (z : (Int × Unit) × (Bool × Unit) × List (Int × List
  Int) × List (Int × List Int) × (List Int × Unit) × List (List Int) × Unit × (Int × Unit) × Unit), Kd.wf (Kd.int IntKind.i64) y_5.fst ∧ Kd.wf (Kd.int IntKind.i64) y_5.snd.fst ∧ True → (Kd.wf
  (Kd.int IntKind.i64) z.fst.fst ∧ True) ∧ (Kd.wf Kd.bool z.snd.fst.fst ∧ True) ∧ Kd.wf (Kd.sl (Kd.pair (Kd.int IntKind.i64) Kd.str)) z.snd.snd.fst ∧ Kd.wf (Kd.sl (Kd.pair (Kd.int
  IntKind.i64) Kd.str)) z.snd.snd.snd.fst ∧ (Kd.wf Kd.str z.snd.snd.snd.snd.fst.fst ∧ True) ∧ Kd.wf (Kd.sl Kd.str) z.snd.snd.snd.snd.snd.fst ∧ True ∧ (Kd.wf (Kd.int IntKind.i64)
  z.snd.snd.snd.snd.snd.snd.snd.fst.fst ∧ True) ∧ True → I y_5 z → (decide (y_5.fst < (↑(List.length z.snd.snd.snd.snd.fst.fst) : Int)) = true → ((0 : Int) ≤ y_5.fst ∧ y_5.fst <
  (↑(List.length z.snd.snd.snd.snd.fst.fst) : Int)) ∧ (decide (List.getD z.snd.snd.snd.snd.fst.fst (Int.toNat y_5.fst) (0 : Int) = (92 : Int)) = true → Value.bool false = Value.bool false ∧
  Value.bool false = Value.bool false ∧ y_2.snd.fst = y_2.snd.fst ∧ y.snd.fst = y.snd.fst ∧ x.fst = x.fst ∧ x.snd.fst = x.snd.fst ∧ I (IntKind.wrap IntKind.i64 (IntKind.wrap IntKind.i64
  (y_5.fst + (1 : Int)) + (1 : Int)), y_5.snd.fst, ()) ((z.fst.fst, ()), (z.snd.fst.fst, ()), z.snd.snd.fst, z.snd.snd.snd.fst, (z.snd.snd.snd.snd.fst.fst, ()), z.snd.snd.snd.snd.snd.fst, (),
  (z.snd.snd.snd.snd.snd.snd.snd.fst.fst, ()), ()) ∧ μ (IntKind.wrap IntKind.i64 (IntKind.wrap IntKind.i64 (y_5.fst + (1 : Int)) + (1 : Int)), y_5.snd.fst, ()) ((z.fst.fst, ()),
  (z.snd.fst.fst, ()), z.snd.snd.fst, z.snd.snd.snd.fst, (z.snd.snd.snd.snd.fst.fst, ()), z.snd.snd.snd.snd.snd.fst, (), (z.snd.snd.snd.snd.snd.snd.snd.fst.fst, ()), ()) < μ y_5 z) ∧ (decide
  (List.getD z.snd.snd.snd.snd.fst.fst (Int.toNat y_5.fst) (0 : Int) = (92 : Int)) = false → (decide (List.getD z.snd.snd.snd.snd.fst.fst (Int.toNat y_5.fst) (0 : Int) = (44 : Int)) = true →
  ((0 : Int) ≤ y_5.snd.fst ∧ y_5.snd.fst ≤ y_5.fst ∧ y_5.fst ≤ (↑(List.length z.snd.snd.snd.snd.fst.fst) : Int)) ∧ (decide ((↑(List.length z.snd.snd.snd.snd.snd.fst) : Int) ≤
  z.snd.snd.snd.snd.snd.snd.snd.fst.fst) = false → True) ∧ (decide ((↑(List.length z.snd.snd.snd.snd.snd.fst) : Int) ≤ z.snd.snd.snd.snd.snd.snd.snd.fst.fst) = false → True) ∧ (decide
  ((↑(List.length z.snd.snd.snd.snd.snd.fst) : Int) ≤ z.snd.snd.snd.snd.snd.snd.snd.fst.fst) = false → True) ∧ (decide ((↑(List.length z.snd.snd.snd.snd.snd.fst) : Int) ≤
  z.snd.snd.snd.snd.snd.snd.snd.fst.fst) = false → (decide ((↑(List.length z.snd.snd.snd.snd.snd.fst) : Int) ≤ z.snd.snd.snd.snd.snd.snd.snd.fst.fst) == false) = true ∧ (decide
  ((↑(List.length z.snd.snd.snd.snd.snd.fst) : Int) ≤ z.snd.snd.snd.snd.snd.snd.snd.fst.fst) == false) = true ∧ ((0 : Int) ≤ z.snd.snd.snd.snd.snd.snd.snd.fst.fst ∧
  z.snd.snd.snd.snd.snd.snd.snd.fst.fst < (↑(List.length z.snd.snd.snd.snd.snd.fst) : Int)) ∧ True) ∧ (decide ((↑(List.length z.snd.snd.snd.snd.snd.fst) : Int) ≤
  z.snd.snd.snd.snd.snd.snd.snd.fst.fst) = false → (decide ((↑(List.length z.snd.snd.snd.snd.snd.fst) : Int) ≤ z.snd.snd.snd.snd.snd.snd.snd.fst.fst) == false) = true ∧ True) ∧ (decide
  ((↑(List.length z.snd.snd.snd.snd.snd.fst) : Int) ≤ z.snd.snd.snd.snd.snd.snd.snd.fst.fst) = false → (decide ((↑(List.length z.snd.snd.snd.snd.snd.fst) : Int) ≤
  z.snd.snd.snd.snd.snd.snd.snd.fst.fst) == false) = true ∧ (decide ((↑(List.length z.snd.snd.snd.snd.snd.fst) : Int) ≤ z.snd.snd.snd.snd.snd.snd.snd.fst.fst) == false) = true ∧ True) ∧
  (decide ((↑(List.length z.snd.snd.snd.snd.snd.fst) : Int) ≤ z.snd.snd.snd.snd.snd.snd.snd.fst.fst) = false → (decide ((↑(List.length z.snd.snd.snd.snd.snd.fst) : Int) ≤
  z.snd.snd.snd.snd.snd.snd.snd.fst.fst) == false) = true) ∧ ((bif decide ((↑(List.length z.snd.snd.snd.snd.snd.fst) : Int) ≤ z.snd.snd.snd.snd.snd.snd.snd.fst.fst) then true else decide
  (List.drop (Int.toNat y_5.snd.fst) (List.take (Int.toNat y_5.fst) z.snd.snd.snd.snd.fst.fst) ≠ List.getD z.snd.snd.snd.snd.snd.fst (Int.toNat z.snd.snd.snd.snd.snd.snd.snd.fst.fst) (Kd.dft
  Kd.str))) = true → false = true) ∧ ((bif decide ((↑(List.length z.snd.snd.snd.snd.snd.fst) : Int) ≤ z.snd.snd.snd.snd.snd.snd.snd.fst.fst) then true else decide (List.drop (Int.toNat
  y_5.snd.fst) (List.take (Int.toNat y_5.fst) z.snd.snd.snd.snd.fst.fst) ≠ List.getD z.snd.snd.snd.snd.snd.fst (Int.toNat z.snd.snd.snd.snd.snd.snd.snd.fst.fst) (Kd.dft Kd.str))) = false →
  Value.bool false = Value.bool false ∧ Value.bool false = Value.bool false ∧ y_2.snd.fst = y_2.snd.fst ∧ y.snd.fst = y.snd.fst ∧ x.fst = x.fst ∧ x.snd.fst = x.snd.fst ∧ I (IntKind.wrap
  IntKind.i64 (y_5.fst + (1 : Int)), IntKind.wrap IntKind.i64 (y_5.fst + (1 : Int)), ()) ((z.fst.fst, ()), (z.snd.fst.fst, ()), z.snd.snd.fst, z.snd.snd.snd.fst, (z.snd.snd.snd.snd.fst.fst,
  ()), z.snd.snd.snd.snd.snd.fst, (), (IntKind.wrap IntKind.i64 (z.snd.snd.snd.snd.snd.snd.snd.fst.fst + (1 : Int)), ()), ()) ∧ μ (IntKind.wrap IntKind.i64 (y_5.fst + (1 : Int)), IntKind.wrap
  IntKind.i64 (y_5.fst + (1 : Int)), ()) ((z.fst.fst, ()), (z.snd.fst.fst, ()), z.snd.snd.fst, z.snd.snd.snd.fst, (z.snd.snd.snd.snd.fst.fst, ()), z.snd.snd.snd.snd.snd.fst, (), (IntKind.wrap
  IntKind.i64 (z.snd.snd.snd.snd.snd.snd.snd.fst.fst + (1 : Int)), ()), ()) < μ y_5 z)) ∧ (decide (List.getD z.snd.snd.snd.snd.fst.fst (Int.toNat y_5.fst) (0 : Int) = (44 : Int)) = false →
  Value.bool false = Value.bool false ∧ Value.bool false = Value.bool false ∧ y_2.snd.fst = y_2.snd.fst ∧ y.snd.fst = y.snd.fst ∧ x.fst = x.fst ∧ x.snd.fst = x.snd.fst ∧ I (IntKind.wrap
  IntKind.i64 (y_5.fst + (1 : Int)), y_5.snd.fst, ()) ((z.fst.fst, ()), (z.snd.fst.fst, ()), z.snd.snd.fst, z.snd.snd.snd.fst, (z.snd.snd.snd.snd.fst.fst, ()), z.snd.snd.snd.snd.snd.fst, (),
  (z.snd.snd.snd.snd.snd.snd.snd.fst.fst, ()), ()) ∧ μ (IntKind.wrap IntKind.i64 (y_5.fst + (1 : Int)), y_5.snd.fst, ()) ((z.fst.fst, ()), (z.snd.fst.fst, ()), z.snd.snd.fst,
  z.snd.snd.snd.fst, (z.snd.snd.snd.snd.fst.fst, ()), z.snd.snd.snd.snd.snd.fst, (), (z.snd.snd.snd.snd.snd.snd.snd.fst.fst, ()), ()) < μ y_5 z))) ∧ (decide (y_5.fst < (↑(List.length
  z.snd.snd.snd.snd.fst.fst) : Int)) = false → ((0 : Int) ≤ y_5.snd.fst ∧ y_5.snd.fst ≤ (↑(List.length z.snd.snd.snd.snd.fst.fst) : Int)) ∧ (decide ((↑(List.length z.snd.snd.snd.snd.snd.fst)
  : Int) ≤ z.snd.snd.snd.snd.snd.snd.snd.fst.fst) = false → True) ∧ (decide ((↑(List.length z.snd.snd.snd.snd.snd.fst) : Int) ≤ z.snd.snd.snd.snd.snd.snd.snd.fst.fst) = false → True) ∧
  (decide ((↑(List.length z.snd.snd.snd.snd.snd.fst) : Int) ≤ z.snd.snd.snd.snd.snd.snd.snd.fst.fst) = false → True) ∧ (decide ((↑(List.length z.snd.snd.snd.snd.snd.fst) : Int) ≤
  z.snd.snd.snd.snd.snd.snd.snd.fst.fst) = false → (decide ((↑(List.length z.snd.snd.snd.snd.snd.fst) : Int) ≤ z.snd.snd.snd.snd.snd.snd.snd.fst.fst) == false) = true ∧ (decide
  ((↑(List.length z.snd.snd.snd.snd.snd.fst) : Int) ≤ z.snd.snd.snd.snd.snd.snd.snd.fst.fst) == false) = true ∧ ((0 : Int) ≤ z.snd.snd.snd.snd.snd.snd.snd.fst.fst ∧
  z.snd.snd.snd.snd.snd.snd.snd.fst.fst < (↑(List.length z.snd.snd.snd.snd.snd.fst) : Int)) ∧ True) ∧ (decide ((↑(List.length z.snd.snd.snd.snd.snd.fst) : Int) ≤
  z.snd.snd.snd.snd.snd.snd.snd.fst.fst) = false → (decide ((↑(List.length z.snd.snd.snd.snd.snd.fst) : Int) ≤ z.snd.snd.snd.snd.snd.snd.snd.fst.fst) == false) = true ∧ True) ∧ (decide
  ((↑(List.length z.snd.snd.snd.snd.snd.fst) : Int) ≤ z.snd.snd.snd.snd.snd.snd.snd.fst.fst) = false → (decide ((↑(List.length z.snd.snd.snd.snd.snd.fst) : Int) ≤
  z.snd.snd.snd.snd.snd.snd.snd.fst.fst) == false) = true ∧ (decide ((↑(List.length z.snd.snd.snd.snd.snd.fst) : Int) ≤ z.snd.snd.snd.snd.snd.snd.snd.fst.fst) == false) = true ∧ True) ∧
  (decide ((↑(List.length z.snd.snd.snd.snd.snd.fst) : Int) ≤ z.snd.snd.snd.snd.snd.snd.snd.fst.fst) = false → (decide ((↑(List.length z.snd.snd.snd.snd.snd.fst) : Int) ≤
  z.snd.snd.snd.snd.snd.snd.snd.fst.fst) == false) = true) ∧ ((bif decide ((↑(List.length z.snd.snd.snd.snd.snd.fst) : Int) ≤ z.snd.snd.snd.snd.snd.snd.snd.fst.fst) then true else decide
  (List.drop (Int.toNat y_5.snd.fst) z.snd.snd.snd.snd.fst.fst ≠ List.getD z.snd.snd.snd.snd.snd.fst (Int.toNat z.snd.snd.snd.snd.snd.snd.snd.fst.fst) (Kd.dft Kd.str))) = true → false = true)
  ∧ ((bif decide ((↑(List.length z.snd.snd.snd.snd.snd.fst) : Int) ≤ z.snd.snd.snd.snd.snd.snd.snd.fst.fst) then true else decide (List.drop (Int.toNat y_5.snd.fst) z.snd.snd.snd.snd.fst.fst
  ≠ List.getD z.snd.snd.snd.snd.snd.fst (Int.toNat z.snd.snd.snd.snd.snd.snd.snd.fst.fst) (Kd.dft Kd.str))) = false → (decide (IntKind.wrap IntKind.i64 (z.snd.snd.snd.snd.snd.snd.snd.fst.fst
  + (1 : Int)) = (↑(List.length z.snd.snd.snd.snd.snd.fst) : Int)) = true → True ∧ (∀ (y : Bool × Unit), Kd.wf Kd.bool y.fst ∧ True → y.fst = true → y.fst = true) ∧ True) ∧ (decide
  (IntKind.wrap IntKind.i64 (z.snd.snd.snd.snd.snd.snd.snd.fst.fst + (1 : Int)) = (↑(List.length z.snd.snd.snd.snd.snd.fst) : Int)) = !true → false = true)))) ∧ True)) ∧ True) ∧ (decide
  (y.snd.fst ≠ y_2.snd.fst) = !false → false = true)) ∧ True) ∧ True) ∧ True
theorem e5 : t5 = Con.vc c_law12_NameParses GL (mkEnv ty [(18, conSem c_name_Parse), (19, conSem c_r12_Parse), (20, conSem c_law12_own), (21, i21), (22, conSem c_r12_Parts), (16, conSem c_law12_works)] [(41, i41)] [] [0, 1, 3, 4, 5, 6, 7, 9, 10, 11, 12, 13, 14, 39, 43, 46, 50, 53, 54, 66]) {joins := [14]} Tryd.f5.ntmps Tryd.f5.results.toList (bodyOf Tryd.f5) := by kernel_rfl
theorem k5 : t5 := by
  unfold t5
  rintro ⟨s, n, _⟩ hx hp
  have hp : s.length + 1 + (1 + 0) ≤ 1048576 := hp
  try dsimp +instances only [dft_int, dft_sl, dft_str]
  simp only [true_and, and_true, eq_self_iff_true, implies_true, reduceCtorEq, false_implies, true_implies, decide_eq_true_eq, decide_eq_false_iff_not, beq_self_eq_true, Bool.not_eq_true', ne_eq, Decidable.not_not, List.nil_append, List.length_singleton, List.length_cons, List.length_nil, Nat.zero_add, Nat.add_zero, Nat.mul_one, and_self, beq_iff_eq, Bool.not_true, Bool.not_false, Bool.not_eq_false', Bool.cond_false_right, Bool.and_eq_true, imp_self, Bool.not_eq_true, Bool.cond_true_left, Bool.or_eq_true]
  refine ⟨by decide, by decide, by omega, ?_⟩
  rintro ⟨x, e, _⟩ _ h1
  refine ⟨by omega, ?_⟩
  rintro ⟨y, f, _⟩ _ h2
  refine ⟨by omega, ?_⟩
  rintro ⟨w, g, _⟩ _ h3
  simp only at h1 h2 h3 ⊢
  obtain ⟨rfl, rfl⟩ := parN_det h1 h3
  obtain ⟨rfl, rfl⟩ := parN_det h2 h3
  have hxl := parN_len h1
  refine ⟨fun _ => ⟨by trivial, by trivial, by trivial, ⟨by rw [lenA]; omega, by rw [lenA]; omega, by rw [lenA]; omega⟩, ?_⟩, fun h => h (by trivial)⟩
  rintro ⟨q, _⟩ _ hq
  have hq : q = true := hq (by trivial) (by trivial)
  simp only at hq ⊢
  refine ⟨fun h => (by rw [hq] at h; cases h), fun _ => ⟨by decide, by omega, ?_⟩⟩
  rintro ⟨L, _⟩ _ eL
  simp only at eL ⊢
  have hcnt := pcs_len s
  rw [← eL] at hcnt
  refine ⟨by decide, by decide, fun _ z => z.2.2.2.2.1.1 = s ∧ z.2.2.2.2.2.1 = L, ?_, ?_⟩
  · refine ⟨fun y z => z.2.2.2.2.1.1 = s ∧ z.2.2.2.2.2.1 = L ∧ 0 ≤ y.1 ∧ y.1 ≤ s.length + 1 ∧ 0 ≤ y.2.1 ∧ y.2.1 ≤ y.1 ∧ y.2.1 ≤ s.length ∧ 0 ≤ z.2.2.2.2.2.2.2.1.1 ∧ z.2.2.2.2.2.2.2.1.1 ≤ y.1, fun y _ => ((s.length : Int) + 1 - y.1).toNat, ⟨by trivial, by trivial, Int.le_refl 0, by simp only; omega, Int.le_refl 0, Int.le_refl 0, by simp only; omega, Int.le_refl 0, Int.le_refl 0⟩, ?_⟩
    rintro ⟨i, f, _⟩ ⟨⟨n, _⟩, ⟨b, _⟩, X, Wn, ⟨m, _⟩, L2, _, ⟨c, _⟩, _⟩ _ _ ⟨em, eL2, i0, i1, f0, f1, f2, c0, c1⟩
    simp only at em eL2 i0 i1 f0 f1 f2 c0 c1 ⊢
    subst em
    subst eL2
    refine ⟨fun hlt => ⟨⟨i0, hlt⟩, fun hc => ?_, fun hc => ⟨fun h4 => ⟨⟨f0, f1, by omega⟩, fun _ => ⟨by trivial, by trivial⟩, fun _ => ?_⟩, fun h4 => ?_⟩⟩, fun hge => ⟨⟨f0, f2⟩, fun _ => ⟨by trivial, by trivial⟩, fun _ => ⟨by trivial, by trivial⟩⟩⟩
    · rw [wrapK (i + 1) (by omega) (by omega), wrapK (i + 1 + 1) (by omega) (by omega)]
      exact ⟨⟨by trivial, by trivial, by omega, by omega, f0, by omega, f2, c0, by omega⟩, by omega⟩
    · rw [wrapK (i + 1) (by omega) (by omega), wrapK (c + 1) (by omega) (by omega)]
      exact ⟨⟨by trivial, by trivial, by omega, by omega, by omega, by omega, by omega, by omega, by omega⟩, by omega⟩
    · rw [wrapK (i + 1) (by omega) (by omega)]
      exact ⟨⟨by trivial, by trivial, by omega, by omega, f0, by omega, f2, c0, by omega⟩, by omega⟩
  rintro _ ⟨⟨n, _⟩, ⟨b, _⟩, X, Wn, ⟨m, _⟩, L2, _, ⟨c, _⟩, _⟩ _ ⟨em, eL2⟩
  simp only at em eL2 ⊢
  subst em
  subst eL2
  refine ⟨fun y z => z.2.2.2.2.1.1 = m ∧ z.2.2.2.2.2.1 = L2 ∧ 0 ≤ y.1 ∧ y.1 ≤ m.length + 1 ∧ 0 ≤ y.2.1 ∧ y.2.1 ≤ y.1 ∧ y.2.1 ≤ m.length ∧ 0 ≤ z.2.2.2.2.2.2.2.1.1 ∧ z.2.2.2.2.2.2.2.1.1 ≤ y.1 ∧ L2.drop z.2.2.2.2.2.2.2.1.1.toNat = pcs m y.2.1.toNat y.1.toNat, fun y _ => ((m.length : Int) + 1 - y.1).toNat, ⟨by trivial, by trivial, Int.le_refl 0, by simp only; omega, Int.le_refl 0, Int.le_refl 0, by simp only; omega, Int.le_refl 0, Int.le_refl 0, eL⟩, ?_⟩
  rintro ⟨i, f, _⟩ ⟨⟨n, _⟩, ⟨b, _⟩, X, Wn, ⟨m2, _⟩, L3, _, ⟨c, _⟩, _⟩ _ _ ⟨em, eL3, i0, i1, f0, f1, f2, c0, c1, hd⟩
  simp only at em eL3 i0 i1 f0 f1 f2 c0 c1 hd ⊢
  subst em
  subst eL3
  refine ⟨fun hlt => ⟨⟨i0, hlt⟩, fun hc => ?_, fun hc => ⟨fun h4 => ⟨⟨f0, f1, by omega⟩, ?_⟩, fun h4 => ?_⟩⟩, fun hge => ⟨⟨f0, f2⟩, ?_⟩⟩
  · rw [wrapK (i + 1) (by omega) (by omega), wrapK (i + 1 + 1) (by omega) (by omega)]
    refine ⟨⟨by trivial, by trivial, by omega, by omega, f0, by omega, f2, c0, by omega, ?_⟩, by omega⟩
    rw [hd, pcs_two (by omega) (by omega) hc, show i.toNat + 2 = (i + 1 + 1).toNat by omega]
  · rw [pcs_comma (by omega) h4] at hd
    obtain ⟨d1, d2, d3⟩ := drop_head [] hd
    rw [wrapK (i + 1) (by omega) (by omega), wrapK (c + 1) (by omega) (by omega)]
    refine ⟨fun h => ⟨h, h, c0, by omega⟩, fun h => h.elim (fun h => by omega) (fun h => h d2.symm), fun h => ⟨⟨by trivial, by trivial, by omega, by omega, by omega, by omega, by omega, by omega, by omega, ?_⟩, by omega⟩⟩
    rw [show (c + 1).toNat = c.toNat + 1 by omega, d3, show (i + 1).toNat = i.toNat + 1 by omega]
  · rw [wrapK (i + 1) (by omega) (by omega)]
    refine ⟨⟨by trivial, by trivial, by omega, by omega, f0, by omega, f2, c0, by omega, ?_⟩, by omega⟩
    rw [hd, pcs_one (by omega) (by omega) h4 hc, show i.toNat + 1 = (i + 1).toNat by omega]
  · rw [pcs_end (by omega)] at hd
    obtain ⟨d1, d2, d3⟩ := drop_head [] hd
    have d4 := congrArg List.length d3
    rw [List.length_drop, List.length_nil] at d4
    rw [wrapK (c + 1) (by omega) (by omega)]
    refine ⟨fun h => ⟨h, h, c0, by omega⟩, fun h => h.elim (fun h => by omega) (fun h => h d2.symm), fun h => ?_⟩
    omega
theorem h5 : c_law12_NameParses.ok Tryd.prog GL 5 := con_ok (H := {joins := [14]}) (mkEnv_ok (gl := GL) (l := [(18, conSem c_name_Parse), (19, conSem c_r12_Parse), (20, conSem c_law12_own), (21, i21), (22, conSem c_r12_Parts), (16, conSem c_law12_works)]) (q := [(41, i41)]) (d := []) _ tyOk (by kernel_rfl) ⟨h18.call, h19.call, h20.call, i21_ok, h22.call, h16.call, trivial⟩ ⟨i41_ok, trivial⟩ trivial) (by kernel_rfl) (by kernel_rfl) (Eq.mp e5 k5)

end Go.Proofs.YtcaekpbmmbfeiaaDoor
end
section
/- Contracts. -/
namespace Go.Proofs.YtcaekpbmmbfeiaaDoor
open Go Go.Vc Go.Pl Go.Proofs
set_option maxRecDepth 100000 in
theorem glOk {w : World} (hL : laidMetH Tryd.prog [("unicode/utf8.acceptRanges", Rows.laid_unicode_utf8_acceptRanges), ("unicode/utf8.first", Rows.laid_unicode_utf8_first)] w) (hS : w.ShapedOpen Tryd.prog) : GlOk GL w (fun _ => False) := by
  have hL : laidMet Tryd.prog [("unicode/utf8.acceptRanges", Rows.laid_unicode_utf8_acceptRanges), ("unicode/utf8.first", Rows.laid_unicode_utf8_first)] w := hL
  have h0 := Lib.laidMet.reads hL (n := "unicode/utf8.first") (d := Rows.laid_unicode_utf8_first) (by simp)
  have h1 := Lib.laidMet.reads hL (n := "unicode/utf8.acceptRanges") (d := Rows.laid_unicode_utf8_acceptRanges) (by simp)
  obtain ⟨m, hm⟩ := Tryd.laysM219.s1_3 w hS
  have hm : w.cell? ⟨0, 0, none⟩ = some (.int .i64 m) := hm
  obtain ⟨fs, hs, hf, ho⟩ := pairB_eq (P := Tryd.prog) (e := 156) (k := .u8) (by kernel_rfl)
  have k0 := gl_ints (P := Tryd.prog) (w := w) (g := 1) (t := 154) (e := 5) (n := 256) (k := .u8) (zs := Lib.firstTab) (by kernel_rfl) (by kernel_rfl) (by kernel_rfl) (by kernel_rfl) (by kernel_rfl) (by kernel_rfl) (by kernel_rfl) (of_decide_eq_true (by kernel_rfl)) (by kernel_rfl) h0
  have k1 := gl_pairs (P := Tryd.prog) (w := w) (g := 2) (t := 157) (e := 156) (n := 16) (k := .u8) (zs := accTab) (by kernel_rfl) (by kernel_rfl) (by kernel_rfl) hs hf ho (by kernel_rfl) (by kernel_rfl) (by kernel_rfl) (of_decide_eq_true (by kernel_rfl)) (by kernel_rfl) (by kernel_rfl) h1
  intro g v hg
  rcases gl_cons hg with ⟨rfl, rfl⟩ | hg
  · exact k0
  rcases gl_cons hg with ⟨rfl, rfl⟩ | hg
  · exact k1
  obtain ⟨rfl, rfl⟩ := gl_one hg
  exact ⟨cell_lt hm, id, m, hm⟩

end Go.Proofs.YtcaekpbmmbfeiaaDoor
end
section
/- Walks. -/
namespace Go.Proofs.YtcaekpbmmbfeiaaDoor
open Go Go.Vc Go.Pl Go.Proofs
end Go.Proofs.YtcaekpbmmbfeiaaDoor
end
