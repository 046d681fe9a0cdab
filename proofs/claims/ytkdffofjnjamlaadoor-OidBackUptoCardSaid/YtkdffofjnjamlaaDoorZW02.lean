/- Texts of a verified walk, led together: OidpA, OidpW, OiddA, OiddW, IcmpA, IcmpW, Law03cA, Law03cW, Law03pA, Law03pW, Glok03pA, Glok03pW. -/
import Derived.Test.YtkdffofjnjamlaaDoorZW01
import Derived.Test.YtkdffofjnjamlaaDoorZV07
import Derived.Test.YtkdffofjnjamlaaDoorRows
set_option linter.unusedVariables false
set_option linter.unusedSimpArgs false
section
/- Contracts. -/
namespace Go.Proofs.YtkdffofjnjamlaaDoor
open Go Go.Vc Go.Pl Go.Proofs
def c_oid_Parse : Con := { args := [.dat .str], res := [.own 3 I64, .dat I64], pre := fun x => x.1.length ≤ 1000000000, post := fun x y => parB x.1 y.1 y.2.1 = true }
def c_r03_Parse : Con := { args := [.dat .str], res := [.own 3 I64, .dat I64], pre := fun x => x.1.length ≤ 1000000000, post := fun x y => parB x.1 y.1 y.2.1 = true }

end Go.Proofs.YtkdffofjnjamlaaDoor
end
section
/- Walks. -/
namespace Go.Proofs.YtkdffofjnjamlaaDoor
open Go Go.Vc Go.Pl Go.Proofs
set_option linter.unusedVariables false
set_option linter.unusedSimpArgs false
noncomputable def i45 : CallSem → CallSem := vcSeq (mkEnv ty [(47, conSem c_strings_Index)] [] [] [0, 1, 2, 3, 6, 7, 8, 11, 14, 25, 33, 42]) {} Tryd.f45.ntmps Tryd.f45.results.toList (bodyOf Tryd.f45)
theorem i45_ok : SeqOk Tryd.prog GL 45 i45 := seq_ok {} (mkEnv_ok (gl := GL) (l := [(47, conSem c_strings_Index)]) (q := []) (d := []) _ tyOk (by kernel_rfl) ⟨h47.call, trivial⟩ trivial trivial) (by kernel_rfl) (by kernel_rfl)

noncomputable def i38 : CallSem := vcFn (mkEnv ty [] [] [] [0, 1, 2, 3, 4, 5, 6]) {} Tryd.f38.ntmps Tryd.f38.results.toList (bodyOf Tryd.f38)
theorem i38_ok : CallOk Tryd.prog GL 38 i38 := inl_ok {} (mkEnv_ok (gl := GL) (l := []) (q := []) (d := []) _ tyOk (by kernel_rfl) trivial trivial trivial) (by kernel_rfl) (by kernel_rfl)

noncomputable def i27 : CallSem := vcFn (mkEnv ty [(38, i38)] [] [] [0, 1, 4]) {} Tryd.f27.ntmps Tryd.f27.results.toList (bodyOf Tryd.f27)
theorem i27_ok : CallOk Tryd.prog GL 27 i27 := inl_ok {} (mkEnv_ok (gl := GL) (l := [(38, i38)]) (q := []) (d := []) _ tyOk (by kernel_rfl) ⟨i38_ok, trivial⟩ trivial trivial) (by kernel_rfl) (by kernel_rfl)

def t16 : Prop :=
  ∀ (x : List Int × Unit),
    Kd.wf Kd.str x.fst ∧ True →
      List.length x.fst ≤ (1000000000 : Nat) →
        (1 : Nat) ≤ (65536 : Nat) ∧
          (1 : Nat) ≤ (65536 : Nat) ∧
            (1 : Nat) ≤ (65536 : Nat) ∧
              List.length [SV.dat Kd.str x.fst] ≤ (65536 : Nat) ∧
                (1 : Nat) ≤ (65536 : Nat) ∧
                  (1 : Nat) ≤ (65536 : Nat) ∧
                    (decide ((↑(1 : Nat) : Int) = (0 : Int)) = true →
                        ∃ (I : Unit → Unit × (Int × Unit) × Unit × (List Int × Unit) × (List Int × Unit) × (Int × Unit) × List Int × List Int × Unit → Prop),
                          ∃ (μ : Unit → Unit × (Int × Unit) × Unit × (List Int × Unit) × (List Int × Unit) × (Int × Unit) × List Int × List Int × Unit → Nat),
                            (Value.bool true = Value.bool true ∧ x.fst = x.fst ∧ I () ((), ((0 : Int), ()), (), (x.fst, ()), (bs { data := #[(46 : UInt8)] }, ()), ((0 : Int), ()), [], [], ())) ∧
                              ∀ (y : Unit) (z : Unit × (Int × Unit) × Unit × (List Int × Unit) × (List Int × Unit) × (Int × Unit) × List Int × List Int × Unit),
                                True →
                                  True ∧
                                      (Kd.wf (Kd.int IntKind.i64) z.snd.fst.fst ∧ True) ∧
                                        True ∧
                                          (Kd.wf Kd.str z.snd.snd.snd.fst.fst ∧ True) ∧
                                            (Kd.wf Kd.str z.snd.snd.snd.snd.fst.fst ∧ True) ∧
                                              (Kd.wf (Kd.int IntKind.i64) z.snd.snd.snd.snd.snd.fst.fst ∧ True) ∧
                                                Kd.wf (Kd.sl (Kd.int IntKind.i64)) z.snd.snd.snd.snd.snd.snd.fst ∧ Kd.wf (Kd.sl (Kd.int IntKind.i64)) z.snd.snd.snd.snd.snd.snd.snd.fst ∧ True →
                                    I y z →
                                      (decide ((0 : Int) < (↑(List.length z.snd.snd.snd.fst.fst) : Int)) = true → False) ∧
                                        (decide ((0 : Int) < (↑(List.length z.snd.snd.snd.fst.fst) : Int)) = false →
                                          True ∧
                                            (∀ (y : Bool × Unit),
                                                Kd.wf Kd.bool y.fst ∧ True →
                                                  y.fst = mayO z.snd.snd.snd.snd.snd.snd.snd.fst →
                                                    ((!y.fst) = true → parB x.fst [] (33 : Int) = true) ∧ ((!y.fst) = false → parB x.fst z.snd.snd.snd.snd.snd.snd.snd.fst (0 : Int) = true)) ∧
                                              True)) ∧
                      (decide ((↑(1 : Nat) : Int) = (0 : Int)) = false →
                        ∃ (I : Unit → Unit × (Int × Unit) × Unit × (List Int × Unit) × (List Int × Unit) × (Int × Unit) × List Int × List Int × Unit → Prop),
                          ∃ (μ : Unit → Unit × (Int × Unit) × Unit × (List Int × Unit) × (List Int × Unit) × (Int × Unit) × List Int × List Int × Unit → Nat),
                            (Value.bool false = Value.bool false ∧ x.fst = x.fst ∧ I () ((), ((0 : Int), ()), (), (x.fst, ()), (bs { data := #[(46 : UInt8)] }, ()), ((0 : Int), ()), [], [], ())) ∧
                              ∀ (y : Unit) (z : Unit × (Int × Unit) × Unit × (List Int × Unit) × (List Int × Unit) × (Int × Unit) × List Int × List Int × Unit),
                                True →
                                  True ∧
                                      (Kd.wf (Kd.int IntKind.i64) z.snd.fst.fst ∧ True) ∧
                                        True ∧
                                          (Kd.wf Kd.str z.snd.snd.snd.fst.fst ∧ True) ∧
                                            (Kd.wf Kd.str z.snd.snd.snd.snd.fst.fst ∧ True) ∧
                                              (Kd.wf (Kd.int IntKind.i64) z.snd.snd.snd.snd.snd.fst.fst ∧ True) ∧
                                                Kd.wf (Kd.sl (Kd.int IntKind.i64)) z.snd.snd.snd.snd.snd.snd.fst ∧ Kd.wf (Kd.sl (Kd.int IntKind.i64)) z.snd.snd.snd.snd.snd.snd.snd.fst ∧ True →
                                    I y z →
                                      List.length z.snd.snd.snd.fst.fst < (4294967281 : Nat) ∧
                                        (∀ (y_1 : Int × Unit),
                                            Kd.wf (Kd.int IntKind.i64) y_1.fst ∧ True →
                                              y_1.fst = idxS z.snd.snd.snd.fst.fst z.snd.snd.snd.snd.fst.fst →
                                                (decide (y_1.fst < (0 : Int)) = true →
                                                    List.length z.snd.snd.snd.fst.fst ≤ (1000000000 : Nat) ∧
                                                      (∀ (y : Int × Bool × Unit),
                                                          Kd.wf (Kd.int IntKind.i64) y.fst ∧ Kd.wf Kd.err y.snd.fst ∧ True →
                                                            (match Lib.atoiAll (u8s (z.snd.snd.snd.fst.fst, ()).fst) with
                                                              | Lib.NumEnd.ok v => y.fst = v ∧ y.snd.fst = false
                                                              | x => y.snd.fst = true) →
                                                              (y.snd.fst = false → True) ∧
                                                                (y.snd.fst = false →
                                                                    (y.snd.fst == false) = true ∧
                                                                      True ∧
                                                                        (∀ (y_2 : List Int × Unit),
                                                                            Kd.wf Kd.str y_2.fst ∧ True →
                                                                              y_2.fst = itoaD y.fst →
                                                                                (decide (y_2.fst ≠ z.snd.snd.snd.fst.fst) = false → True) ∧
                                                                                  (decide (y_2.fst ≠ z.snd.snd.snd.fst.fst) = false → (decide (y_2.fst ≠ z.snd.snd.snd.fst.fst) == false) = true ∧ True) ∧
                                                                                    (decide (y_2.fst ≠ z.snd.snd.snd.fst.fst) = false →
                                                                                        (decide (y_2.fst ≠ z.snd.snd.snd.fst.fst) == false) = true ∧ True) ∧
                                                                                      (decide (y_2.fst ≠ z.snd.snd.snd.fst.fst) = false → (decide (y_2.fst ≠ z.snd.snd.snd.fst.fst) == false) = true) ∧
                                                                                        ((bif decide (y_2.fst ≠ z.snd.snd.snd.fst.fst) then true
                                                                                              else decide ((↑(List.length z.snd.snd.snd.snd.snd.snd.snd.fst) : Int) = (20 : Int))) =
                                                                                              true →
                                                                                            parB x.fst [] (33 : Int) = true) ∧
                                                                                          ((bif decide (y_2.fst ≠ z.snd.snd.snd.fst.fst) then true
                                                                                              else decide ((↑(List.length z.snd.snd.snd.snd.snd.snd.snd.fst) : Int) = (20 : Int))) =
                                                                                              false →
                                                                                            (0 : Nat) < (1 : Nat) ∧
                                                                                              (List.length z.snd.snd.snd.snd.snd.snd.snd.fst + List.length [y.fst]) * (8 : Nat) ≤
                                                                                                  (140737488355328 : Nat) ∧
                                                                                                List.length z.snd.snd.snd.snd.snd.snd.snd.fst + List.length [y.fst] ≤ (9223372036854775807 : Nat) ∧
                                                                                                  True ∧
                                                                                                    (∀ (y_3 : Bool × Unit),
                                                                                                        Kd.wf Kd.bool y_3.fst ∧ True →
                                                                                                          y_3.fst = mayO (z.snd.snd.snd.snd.snd.snd.snd.fst ++ [y.fst]) →
                                                                                                            ((!y_3.fst) = true → parB x.fst [] (33 : Int) = true) ∧
                                                                                                              ((!y_3.fst) = false →
                                                                                                                parB x.fst (z.snd.snd.snd.snd.snd.snd.snd.fst ++ [y.fst]) (0 : Int) = true)) ∧
                                                                                                      True)) ∧
                                                                          True) ∧
                                                                  (y.snd.fst = !false → parB x.fst [] (33 : Int) = true)) ∧
                                                        True) ∧
                                                  (decide (y_1.fst < (0 : Int)) = false →
                                                    ((0 : Int) ≤ IntKind.wrap IntKind.i64 (y_1.fst + z.snd.snd.snd.snd.snd.fst.fst) ∧
                                                        IntKind.wrap IntKind.i64 (y_1.fst + z.snd.snd.snd.snd.snd.fst.fst) ≤ (↑(List.length z.snd.snd.snd.fst.fst) : Int)) ∧
                                                      List.length (List.take (Int.toNat (IntKind.wrap IntKind.i64 (y_1.fst + z.snd.snd.snd.snd.snd.fst.fst))) z.snd.snd.snd.fst.fst) ≤
                                                          (1000000000 : Nat) ∧
                                                        (∀ (y_2 : Int × Bool × Unit),
                                                            Kd.wf (Kd.int IntKind.i64) y_2.fst ∧ Kd.wf Kd.err y_2.snd.fst ∧ True →
                                                              (match
                                                                  Lib.atoiAll
                                                                    (u8s (List.take (Int.toNat (IntKind.wrap IntKind.i64 (y_1.fst + z.snd.snd.snd.snd.snd.fst.fst))) z.snd.snd.snd.fst.fst, ()).fst) with
                                                                | Lib.NumEnd.ok v => y_2.fst = v ∧ y_2.snd.fst = false
                                                                | x => y_2.snd.fst = true) →
                                                                (y_2.snd.fst = false → True) ∧
                                                                  (y_2.snd.fst = false →
                                                                      (y_2.snd.fst == false) = true ∧
                                                                        True ∧
                                                                          (∀ (y_3 : List Int × Unit),
                                                                              Kd.wf Kd.str y_3.fst ∧ True →
                                                                                y_3.fst = itoaD y_2.fst →
                                                                                  (decide
                                                                                          (y_3.fst ≠
                                                                                            List.take (Int.toNat (IntKind.wrap IntKind.i64 (y_1.fst + z.snd.snd.snd.snd.snd.fst.fst)))
                                                                                              z.snd.snd.snd.fst.fst) =
                                                                                        false →
                                                                                      True) ∧
                                                                                    (decide
                                                                                            (y_3.fst ≠
                                                                                              List.take (Int.toNat (IntKind.wrap IntKind.i64 (y_1.fst + z.snd.snd.snd.snd.snd.fst.fst)))
                                                                                                z.snd.snd.snd.fst.fst) =
                                                                                          false →
                                                                                        (decide
                                                                                                (y_3.fst ≠
                                                                                                  List.take (Int.toNat (IntKind.wrap IntKind.i64 (y_1.fst + z.snd.snd.snd.snd.snd.fst.fst)))
                                                                                                    z.snd.snd.snd.fst.fst) ==
                                                                                              false) =
                                                                                            true ∧
                                                                                          True) ∧
                                                                                      (decide
                                                                                              (y_3.fst ≠
                                                                                                List.take (Int.toNat (IntKind.wrap IntKind.i64 (y_1.fst + z.snd.snd.snd.snd.snd.fst.fst)))
                                                                                                  z.snd.snd.snd.fst.fst) =
                                                                                            false →
                                                                                          (decide
                                                                                                  (y_3.fst ≠
                                                                                                    List.take (Int.toNat (IntKind.wrap IntKind.i64 (y_1.fst + z.snd.snd.snd.snd.snd.fst.fst)))
                                                                                                      z.snd.snd.snd.fst.fst) ==
                                                                                                false) =
                                                                                              true ∧
                                                                                            True) ∧
                                                                                        (decide
                                                                                                (y_3.fst ≠
                                                                                                  List.take (Int.toNat (IntKind.wrap IntKind.i64 (y_1.fst + z.snd.snd.snd.snd.snd.fst.fst)))
                                                                                                    z.snd.snd.snd.fst.fst) =
                                                                                              false →
                                                                                            (decide
                                                                                                  (y_3.fst ≠
                                                                                                    List.take (Int.toNat (IntKind.wrap IntKind.i64 (y_1.fst + z.snd.snd.snd.snd.snd.fst.fst)))
                                                                                                      z.snd.snd.snd.fst.fst) ==
                                                                                                false) =
                                                                                              true) ∧
                                                                                          ((bif
                                                                                                    decide
                                                                                                      (y_3.fst ≠
                                                                                                        List.take (Int.toNat (IntKind.wrap IntKind.i64 (y_1.fst + z.snd.snd.snd.snd.snd.fst.fst)))
                                                                                                          z.snd.snd.snd.fst.fst) then
                                                                                                  true
                                                                                                else decide ((↑(List.length z.snd.snd.snd.snd.snd.snd.snd.fst) : Int) = (20 : Int))) =
                                                                                                true →
                                                                                              parB x.fst [] (33 : Int) = true) ∧
                                                                                            ((bif
                                                                                                    decide
                                                                                                      (y_3.fst ≠
                                                                                                        List.take (Int.toNat (IntKind.wrap IntKind.i64 (y_1.fst + z.snd.snd.snd.snd.snd.fst.fst)))
                                                                                                          z.snd.snd.snd.fst.fst) then
                                                                                                  true
                                                                                                else decide ((↑(List.length z.snd.snd.snd.snd.snd.snd.snd.fst) : Int) = (20 : Int))) =
                                                                                                false →
                                                                                              (0 : Nat) < (1 : Nat) ∧
                                                                                                (List.length z.snd.snd.snd.snd.snd.snd.snd.fst + List.length [y_2.fst]) * (8 : Nat) ≤
                                                                                                    (140737488355328 : Nat) ∧
                                                                                                  List.length z.snd.snd.snd.snd.snd.snd.snd.fst + List.length [y_2.fst] ≤ (9223372036854775807 : Nat) ∧
                                                                                                    ((0 : Int) ≤ IntKind.wrap IntKind.i64 (y_1.fst + (↑(List.length z.snd.snd.snd.snd.fst.fst) : Int)) ∧
                                                                                                        IntKind.wrap IntKind.i64 (y_1.fst + (↑(List.length z.snd.snd.snd.snd.fst.fst) : Int)) ≤
                                                                                                          (↑(List.length z.snd.snd.snd.fst.fst) : Int)) ∧
                                                                                                      Value.bool false = Value.bool false ∧
                                                                                                        x.fst = x.fst ∧
                                                                                                          I ()
                                                                                                              ((), (z.snd.fst.fst, ()), (),
                                                                                                                (List.drop
                                                                                                                    (Int.toNat
                                                                                                                      (IntKind.wrap IntKind.i64
                                                                                                                        (y_1.fst + (↑(List.length z.snd.snd.snd.snd.fst.fst) : Int))))
                                                                                                                    z.snd.snd.snd.fst.fst,
                                                                                                                  ()),
                                                                                                                (z.snd.snd.snd.snd.fst.fst, ()), (z.snd.snd.snd.snd.snd.fst.fst, ()),
                                                                                                                z.snd.snd.snd.snd.snd.snd.fst, z.snd.snd.snd.snd.snd.snd.snd.fst ++ [y_2.fst], ()) ∧
                                                                                                            μ ()
                                                                                                                ((), (z.snd.fst.fst, ()), (),
                                                                                                                  (List.drop
                                                                                                                      (Int.toNat
                                                                                                                        (IntKind.wrap IntKind.i64
                                                                                                                          (y_1.fst + (↑(List.length z.snd.snd.snd.snd.fst.fst) : Int))))
                                                                                                                      z.snd.snd.snd.fst.fst,
                                                                                                                    ()),
                                                                                                                  (z.snd.snd.snd.snd.fst.fst, ()), (z.snd.snd.snd.snd.snd.fst.fst, ()),
                                                                                                                  z.snd.snd.snd.snd.snd.snd.fst, z.snd.snd.snd.snd.snd.snd.snd.fst ++ [y_2.fst], ()) <
                                                                                                              μ y z)) ∧
                                                                            True) ∧
                                                                    (y_2.snd.fst = !false → parB x.fst [] (33 : Int) = true)) ∧
                                                          True)) ∧
                                          True)
theorem e16 : t16 = Con.vc c_oid_Parse GL (mkEnv ty [(27, i27), (38, i38), (28, conSem c_strconv_Atoi), (23, conSem c_strconv_Itoa), (12, conSem c_oid_May)] [(45, i45)] [] [0, 2, 3, 4, 5, 6, 7, 9, 10, 28, 35]) {} Tryd.f16.ntmps Tryd.f16.results.toList (bodyOf Tryd.f16) := by kernel_rfl
theorem k16 : t16 := by
  unfold t16
  rintro ⟨s, _⟩ hx hp
  have hp : s.length ≤ 1000000000 := hp
  try dsimp +instances only [dft_int, dft_sl, dft_str]
  simp only [true_and, and_true, eq_self_iff_true, implies_true, reduceCtorEq, false_implies, true_implies, decide_eq_true_eq, decide_eq_false_iff_not, beq_self_eq_true, Bool.not_eq_true', ne_eq, Decidable.not_not, List.nil_append, List.length_singleton, List.length_cons, List.length_nil, Nat.zero_add, Nat.add_zero, Nat.mul_one, and_self, beq_iff_eq, Bool.not_true, Bool.not_false, Bool.not_eq_false', Bool.cond_false_right, Bool.and_eq_true, imp_self, Bool.not_eq_true, Bool.cond_true_left, Bool.or_eq_true]
  rw [show bs { data := #[46] } = [46] by decide]
  refine ⟨by decide, by decide, by decide, by decide, by decide, by decide, fun h => absurd h (by decide), fun _ => ?_⟩
  refine ⟨fun _ z => z.2.2.2.2.1.1 = [46] ∧ z.2.2.2.2.2.1.1 = 0 ∧ (z.2.2.2.2.2.2.2.1 : List Int).length ≤ 20 ∧ s = ledO (List.map itoaD z.2.2.2.2.2.2.2.1) z.2.2.2.1.1, fun _ z => (z.2.2.2.1.1 : List Int).length, ⟨rfl, rfl, by simp, rfl⟩, ?_⟩
  rintro _ ⟨_, ⟨q, _⟩, _, ⟨r, _⟩, ⟨sep, _⟩, ⟨sv, _⟩, o, arcs, _⟩ _ ⟨e1, e2, e3, e4⟩
  simp only at e1 e2 e3 e4 ⊢
  subst e1
  subst e2
  have hX : ∀ x ∈ arcs.map itoaD, (46 : Int) ∉ x := fun x hx => by
    obtain ⟨a, _, rfl⟩ := List.mem_map.1 hx
    exact itoa_no46 a
  have hr : r.length ≤ s.length := by rw [e4, ledO, List.length_append]; omega
  have hge := idxB_ge r 46
  -- a word that is none of an arc's
  have bad : ∀ (w t : List Int) (n : Int) (b : Bool), r = w ++ t → (t = [] ∨ ∃ r2, t = 46 :: r2) → (46 : Int) ∉ w → (match Lib.atoiAll (u8s w) with | Lib.NumEnd.ok v => n = v ∧ b = false | x => b = true) → (b = true ∨ ¬ itoaD n = w ∨ (arcs.length : Int) = 20) → parB s [] 33 = true := fun w t n b hrw ht hw hA hb => by
    refine parB_iff.2 (.inr ⟨rfl, rfl, fun m hm hmt => ?_⟩)
    obtain ⟨a, a0, a1, rfl, hl⟩ := word_at hm hmt (by rw [← hrw]; exact e4) ht hX hw
    rw [atoi_dig a0 a1] at hA
    obtain ⟨rfl, rfl⟩ : n = a ∧ b = false := hA
    rw [List.length_map] at hl
    have := (may_args hm).2.1
    rcases hb with hb | hb | hb
    · cases hb
    · exact hb (itoa_pos a0)
    · omega
  refine ⟨by omega, ?_⟩
  rintro ⟨i, _⟩ _ ei
  simp only at ei ⊢
  rw [idxS_one] at ei
  subst ei
  refine ⟨fun hneg => ⟨by omega, ?_⟩, fun hpos => ?_⟩
  · have hno := idx_none hneg
    rintro ⟨n, b, _⟩ _ hA
    simp only at hA ⊢
    refine ⟨fun hb => ⟨hb, ?_⟩, fun hb => bad r [] n b (by simp) (.inl rfl) hno hA (.inl hb)⟩
    rintro ⟨w, _⟩ _ ew
    simp only at ew ⊢
    subst ew
    refine ⟨fun hbad => bad r [] n b (by simp) (.inl rfl) hno hA (.inr hbad), fun hg => ?_⟩
    simp only [Bool.or_eq_false_iff, decide_eq_false_iff_not] at hg
    have hw : itoaD n = r := Classical.not_not.1 hg.1
    refine ⟨by decide, by omega, by omega, ?_⟩
    rintro ⟨c, _⟩ _ ec
    simp only at ec ⊢
    subst ec
    have hall : ∀ m, mayO m = true → txtO m = s → m = arcs ++ [n] := fun m hm hmt => by
      have := words_of hm hmt e4 hX hno
      rw [← hw] at this
      exact words_inj (fun a ha => ((may_args hm).2.2.1 a ha).1) (by rw [this, List.map_append]; rfl)
    refine ⟨fun hc => parB_iff.2 (.inr ⟨rfl, rfl, fun m hm hmt => ?_⟩), fun hc => parB_iff.2 (.inl ⟨rfl, hc, ?_⟩)⟩
    · rw [hall m hm hmt, hc] at hm
      cases hm
    · obtain ⟨h1, _, h3, _⟩ := may_args hc
      rw [e4, led_join, ← join_txt (by omega), ← hw]
      congr 1
      rw [List.map_append]
      congr 1
      · exact List.map_congr_left fun a ha => (itoa_pos (h3 a (by simp [ha])).1).symm
      · rw [List.map_singleton, itoa_pos (h3 n (by simp)).1]
  · obtain ⟨hno, hcut⟩ := idx_some (l := r) (c := 46) (by omega)
    rw [Int.add_zero, wrapK (idxB r 46) (by omega) (by omega), show (([46] : List Int).length : Int) = 1 by rfl, wrapK (idxB r 46 + 1) (by omega) (by omega)]
    refine ⟨⟨by omega, by omega⟩, by rw [List.length_take]; omega, ?_⟩
    rintro ⟨n, b, _⟩ _ hA
    simp only at hA ⊢
    refine ⟨fun hb => ⟨hb, ?_⟩, fun hb => bad _ _ n b hcut (.inr ⟨_, rfl⟩) hno hA (.inl hb)⟩
    rintro ⟨w, _⟩ _ ew
    simp only at ew ⊢
    subst ew
    refine ⟨fun hbad => bad _ _ n b hcut (.inr ⟨_, rfl⟩) hno hA (.inr hbad), fun hg => ?_⟩
    simp only [Bool.or_eq_false_iff, decide_eq_false_iff_not] at hg
    have hw : itoaD n = r.take (idxB r 46).toNat := Classical.not_not.1 hg.1
    refine ⟨by decide, by omega, by omega, ⟨by omega, by omega⟩, ⟨trivial, trivial, ?_, ?_⟩, ?_⟩
    · rw [List.length_append, List.length_singleton]; omega
    · rw [List.map_append, List.map_singleton, hw, ← led_step, show (idxB r 46 + 1).toNat = (idxB r 46).toNat + 1 by omega, ← hcut]
      exact e4
    · rw [List.length_drop]; omega
theorem h16 : c_oid_Parse.ok Tryd.prog GL 16 := con_ok (H := {}) (mkEnv_ok (gl := GL) (l := [(27, i27), (38, i38), (28, conSem c_strconv_Atoi), (23, conSem c_strconv_Itoa), (12, conSem c_oid_May)]) (q := [(45, i45)]) (d := []) _ tyOk (by kernel_rfl) ⟨i27_ok, i38_ok, h28.call, h23.call, h12.call, trivial⟩ ⟨i45_ok, trivial⟩ trivial) (by kernel_rfl) (by kernel_rfl) (Eq.mp e16 k16)

def t17 : Prop :=
  ∀ (x : List Int × Unit),
    Kd.wf Kd.str x.fst ∧ True →
      List.length x.fst ≤ (1000000000 : Nat) →
        ∃ (I : Int × Int × Unit → List Int × List Int × Unit → Prop),
          ∃ (μ : Int × Int × Unit → List Int × List Int × Unit → Nat),
            (x.fst = x.fst ∧ I ((0 : Int), (0 : Int), ()) ([(0 : Int)], [], ())) ∧
              ∀ (y : Int × Int × Unit) (z : List Int × List Int × Unit),
                Kd.wf (Kd.int IntKind.i64) y.fst ∧ Kd.wf (Kd.int IntKind.i64) y.snd.fst ∧ True →
                  Kd.wf (Kd.sl (Kd.int IntKind.i64)) z.fst ∧ Kd.wf (Kd.sl (Kd.int IntKind.i64)) z.snd.fst ∧ True →
                    I y z →
                      (decide (y.fst < (↑(List.length x.fst) : Int)) = true →
                          ((0 : Int) ≤ y.fst ∧ y.fst < (↑(List.length x.fst) : Int)) ∧
                            (decide (List.getD x.fst (Int.toNat y.fst) (0 : Int) = (46 : Int)) = true →
                                (decide (IntKind.wrap IntKind.i64 (IntKind.wrap IntKind.i64 ((↑(List.length z.fst) : Int) - (1 : Int)) + (1 : Int)) = (20 : Int)) = true →
                                    parB x.fst [] (33 : Int) = true) ∧
                                  (decide (IntKind.wrap IntKind.i64 (IntKind.wrap IntKind.i64 ((↑(List.length z.fst) : Int) - (1 : Int)) + (1 : Int)) = (20 : Int)) = false →
                                    (0 : Nat) < (1 : Nat) ∧
                                      (List.length z.fst + (1 : Nat)) * (8 : Nat) ≤ (140737488355328 : Nat) ∧
                                        List.length z.fst + (1 : Nat) ≤ (9223372036854775807 : Nat) ∧
                                          x.fst = x.fst ∧
                                            I (IntKind.wrap IntKind.i64 (y.fst + (1 : Int)), y.snd.fst, ()) (z.fst ++ [(0 : Int)], z.snd.fst, ()) ∧
                                              μ (IntKind.wrap IntKind.i64 (y.fst + (1 : Int)), y.snd.fst, ()) (z.fst ++ [(0 : Int)], z.snd.fst, ()) < μ y z)) ∧
                              (decide (List.getD x.fst (Int.toNat y.fst) (0 : Int) = (46 : Int)) = false →
                                ((0 : Int) ≤ y.fst ∧ y.fst < (↑(List.length x.fst) : Int)) ∧
                                  (decide ((48 : Int) ≤ List.getD x.fst (Int.toNat y.fst) (0 : Int)) = true → True) ∧
                                    (decide ((48 : Int) ≤ List.getD x.fst (Int.toNat y.fst) (0 : Int)) = true → True) ∧
                                      (decide ((48 : Int) ≤ List.getD x.fst (Int.toNat y.fst) (0 : Int)) = true →
                                          (decide ((48 : Int) ≤ List.getD x.fst (Int.toNat y.fst) (0 : Int)) == true) = true ∧
                                            (decide ((48 : Int) ≤ List.getD x.fst (Int.toNat y.fst) (0 : Int)) == true) = true ∧ ((0 : Int) ≤ y.fst ∧ y.fst < (↑(List.length x.fst) : Int)) ∧ True) ∧
                                        (decide ((48 : Int) ≤ List.getD x.fst (Int.toNat y.fst) (0 : Int)) = true →
                                            (decide ((48 : Int) ≤ List.getD x.fst (Int.toNat y.fst) (0 : Int)) == true) = true ∧ True) ∧
                                          (decide ((48 : Int) ≤ List.getD x.fst (Int.toNat y.fst) (0 : Int)) = true →
                                              (decide ((48 : Int) ≤ List.getD x.fst (Int.toNat y.fst) (0 : Int)) == true) = true) ∧
                                            ((bif decide ((48 : Int) ≤ List.getD x.fst (Int.toNat y.fst) (0 : Int)) then decide (List.getD x.fst (Int.toNat y.fst) (0 : Int) ≤ (57 : Int)) else false) =
                                                  true →
                                                ((0 : Int) ≤ IntKind.wrap IntKind.i64 ((↑(List.length z.fst) : Int) - (1 : Int)) ∧
                                                    IntKind.wrap IntKind.i64 ((↑(List.length z.fst) : Int) - (1 : Int)) < (↑(List.length z.fst) : Int)) ∧
                                                  ((0 : Int) ≤ y.fst ∧ y.fst < (↑(List.length x.fst) : Int)) ∧
                                                    ((0 : Int) ≤ IntKind.wrap IntKind.i64 ((↑(List.length z.fst) : Int) - (1 : Int)) ∧
                                                        IntKind.wrap IntKind.i64 ((↑(List.length z.fst) : Int) - (1 : Int)) < (↑(List.length z.fst) : Int)) ∧
                                                      ((0 : Int) ≤ IntKind.wrap IntKind.i64 ((↑(List.length z.fst) : Int) - (1 : Int)) ∧
                                                          IntKind.wrap IntKind.i64 ((↑(List.length z.fst) : Int) - (1 : Int)) <
                                                            (↑(List.length
                                                                  (List.set z.fst (Int.toNat (IntKind.wrap IntKind.i64 ((↑(List.length z.fst) : Int) - (1 : Int))))
                                                                    (IntKind.wrap IntKind.i64
                                                                      (IntKind.wrap IntKind.i64
                                                                          ((10 : Int) *
                                                                            List.getD z.fst (Int.toNat (IntKind.wrap IntKind.i64 ((↑(List.length z.fst) : Int) - (1 : Int))))
                                                                              (Kd.dft (Kd.int IntKind.i64))) +
                                                                        IntKind.wrap IntKind.i64 (IntKind.wrap IntKind.u8 (List.getD x.fst (Int.toNat y.fst) (0 : Int) - (48 : Int))))))) :
                                                              Int)) ∧
                                                        (decide
                                                                ((2147483647 : Int) <
                                                                  List.getD
                                                                    (List.set z.fst (Int.toNat (IntKind.wrap IntKind.i64 ((↑(List.length z.fst) : Int) - (1 : Int))))
                                                                      (IntKind.wrap IntKind.i64
                                                                        (IntKind.wrap IntKind.i64
                                                                            ((10 : Int) *
                                                                              List.getD z.fst (Int.toNat (IntKind.wrap IntKind.i64 ((↑(List.length z.fst) : Int) - (1 : Int))))
                                                                                (Kd.dft (Kd.int IntKind.i64))) +
                                                                          IntKind.wrap IntKind.i64 (IntKind.wrap IntKind.u8 (List.getD x.fst (Int.toNat y.fst) (0 : Int) - (48 : Int))))))
                                                                    (Int.toNat (IntKind.wrap IntKind.i64 ((↑(List.length z.fst) : Int) - (1 : Int)))) (Kd.dft (Kd.int IntKind.i64))) =
                                                              true →
                                                            parB x.fst [] (33 : Int) = true) ∧
                                                          (decide
                                                                ((2147483647 : Int) <
                                                                  List.getD
                                                                    (List.set z.fst (Int.toNat (IntKind.wrap IntKind.i64 ((↑(List.length z.fst) : Int) - (1 : Int))))
                                                                      (IntKind.wrap IntKind.i64
                                                                        (IntKind.wrap IntKind.i64
                                                                            ((10 : Int) *
                                                                              List.getD z.fst (Int.toNat (IntKind.wrap IntKind.i64 ((↑(List.length z.fst) : Int) - (1 : Int))))
                                                                                (Kd.dft (Kd.int IntKind.i64))) +
                                                                          IntKind.wrap IntKind.i64 (IntKind.wrap IntKind.u8 (List.getD x.fst (Int.toNat y.fst) (0 : Int) - (48 : Int))))))
                                                                    (Int.toNat (IntKind.wrap IntKind.i64 ((↑(List.length z.fst) : Int) - (1 : Int)))) (Kd.dft (Kd.int IntKind.i64))) =
                                                              false →
                                                            x.fst = x.fst ∧
                                                              I (IntKind.wrap IntKind.i64 (y.fst + (1 : Int)), y.snd.fst, ())
                                                                  (List.set z.fst (Int.toNat (IntKind.wrap IntKind.i64 ((↑(List.length z.fst) : Int) - (1 : Int))))
                                                                      (IntKind.wrap IntKind.i64
                                                                        (IntKind.wrap IntKind.i64
                                                                            ((10 : Int) *
                                                                              List.getD z.fst (Int.toNat (IntKind.wrap IntKind.i64 ((↑(List.length z.fst) : Int) - (1 : Int))))
                                                                                (Kd.dft (Kd.int IntKind.i64))) +
                                                                          IntKind.wrap IntKind.i64 (IntKind.wrap IntKind.u8 (List.getD x.fst (Int.toNat y.fst) (0 : Int) - (48 : Int))))),
                                                                    z.snd.fst, ()) ∧
                                                                μ (IntKind.wrap IntKind.i64 (y.fst + (1 : Int)), y.snd.fst, ())
                                                                    (List.set z.fst (Int.toNat (IntKind.wrap IntKind.i64 ((↑(List.length z.fst) : Int) - (1 : Int))))
                                                                        (IntKind.wrap IntKind.i64
                                                                          (IntKind.wrap IntKind.i64
                                                                              ((10 : Int) *
                                                                                List.getD z.fst (Int.toNat (IntKind.wrap IntKind.i64 ((↑(List.length z.fst) : Int) - (1 : Int))))
                                                                                  (Kd.dft (Kd.int IntKind.i64))) +
                                                                            IntKind.wrap IntKind.i64 (IntKind.wrap IntKind.u8 (List.getD x.fst (Int.toNat y.fst) (0 : Int) - (48 : Int))))),
                                                                      z.snd.fst, ()) <
                                                                  μ y z)) ∧
                                              ((bif decide ((48 : Int) ≤ List.getD x.fst (Int.toNat y.fst) (0 : Int)) then decide (List.getD x.fst (Int.toNat y.fst) (0 : Int) ≤ (57 : Int)) else false) =
                                                  false →
                                                parB x.fst [] (33 : Int) = true))) ∧
                        (decide (y.fst < (↑(List.length x.fst) : Int)) = false →
                          True ∧
                            (∀ (y : List Int × Int × Unit),
                                Kd.wf Kd.str y.fst ∧ Kd.wf (Kd.int IntKind.i64) y.snd.fst ∧ True →
                                  (y.fst, y.snd.fst) = TxtO z.fst →
                                    (decide (y.snd.fst ≠ (0 : Int)) = false → True) ∧
                                      (decide (y.snd.fst ≠ (0 : Int)) = false → True) ∧
                                        (decide (y.snd.fst ≠ (0 : Int)) = false → (decide (y.snd.fst ≠ (0 : Int)) == false) = true ∧ (decide (y.snd.fst ≠ (0 : Int)) == false) = true ∧ True) ∧
                                          (decide (y.snd.fst ≠ (0 : Int)) = false → (decide (y.snd.fst ≠ (0 : Int)) == false) = true) ∧
                                            ((bif decide (y.snd.fst ≠ (0 : Int)) then true else decide (y.fst ≠ x.fst)) = true → parB x.fst [] (33 : Int) = true) ∧
                                              ((bif decide (y.snd.fst ≠ (0 : Int)) then true else decide (y.fst ≠ x.fst)) = false → parB x.fst z.fst (0 : Int) = true)) ∧
                              True)
theorem e17 : t17 = Con.vc c_r03_Parse GL (mkEnv ty [(11, conSem c_r03_Text)] [] [] [0, 2, 3, 4, 5, 6, 7, 8, 13, 19, 26, 30, 59, 71]) {} Tryd.f17.ntmps Tryd.f17.results.toList (bodyOf Tryd.f17) := by kernel_rfl
theorem k17 : t17 := by
  unfold t17
  rintro ⟨s, _⟩ hx hp
  have hp : s.length ≤ 1000000000 := hp
  try dsimp +instances only [dft_int, dft_sl, dft_str]
  simp only [true_and, and_true, eq_self_iff_true, implies_true, reduceCtorEq, false_implies, true_implies, decide_eq_true_eq, decide_eq_false_iff_not, beq_self_eq_true, Bool.not_eq_true', ne_eq, Decidable.not_not, List.nil_append, List.length_singleton, List.length_cons, List.length_nil, Nat.zero_add, Nat.add_zero, Nat.mul_one, and_self, beq_iff_eq, Bool.not_true, Bool.not_false, Bool.not_eq_false', Bool.cond_false_right, Bool.and_eq_true, imp_self, Bool.not_eq_true, Bool.cond_true_left, Bool.or_eq_true]
  refine ⟨fun y z => ∃ (X : List (List Int)) (w : List Int), 0 ≤ y.1 ∧ y.1 ≤ s.length ∧ (∀ x ∈ X, (46 : Int) ∉ x) ∧ (∀ c ∈ w, 48 ≤ c ∧ c ≤ 57) ∧ s.take y.1.toNat = ledO X w ∧ z.1 = (X ++ [w]).map valD ∧ (z.1 : List Int).length ≤ 20 ∧ ∀ a ∈ (z.1 : List Int), 0 ≤ a ∧ a ≤ 2147483647, fun y _ => ((s.length : Int) - y.1).toNat, ⟨[], [], Int.le_refl 0, by simp only; omega, (fun x hx => by cases hx), (fun c hc => by cases hc), by simp [ledO], rfl, by simp, fun a ha => by rw [List.mem_singleton.1 ha]; omega⟩, ?_⟩
  rintro ⟨i, q, _⟩ ⟨l, o, _⟩ _ _ ⟨X, w, i0, i1, hX, hw, ht, el, hl, hb⟩
  simp only at i0 i1 ht el hl hb ⊢
  have hw46 : (46 : Int) ∉ w := fun hm => by have := hw 46 hm; omega
  have hlen : l.length = X.length + 1 := by rw [el]; simp
  have hs : s = ledO X (w ++ s.drop i.toNat) := (List.take_append_drop i.toNat s).symm.trans (by rw [ht]; simp [ledO, List.append_assoc])
  have hWl : IntKind.wrap .i64 ((l.length : Int) - 1) = X.length := by rw [wrapK _ (by omega) (by omega)]; omega
  have hA : l = X.map valD ++ [valD w] := by rw [el]; simp
  have hv0 : 0 ≤ valD w := val_nonneg w fun c hc => (hw c hc).1
  have hv1 : valD w ≤ 2147483647 := (hb _ (by rw [hA]; simp)).2
  have hg : l.getD X.length 0 = valD w := by rw [hA]; have := get_last (X.map valD) (valD w); rwa [List.length_map] at this
  have hset : ∀ v, l.set X.length v = X.map valD ++ [v] := fun v => by rw [hA]; have := set_last (X.map valD) (valD w) v; rwa [List.length_map] at this
  have hg2 : ∀ v, (X.map valD ++ [v]).getD X.length 0 = v := fun v => by have := get_last (X.map valD) v; rwa [List.length_map] at this
  refine ⟨fun hlt => ?_, fun hge => ?_⟩
  · have hi1 : IntKind.wrap .i64 (i + 1) = i + 1 := wrapK _ (by omega) (by omega)
    have hX1 : IntKind.wrap .i64 ((X.length : Int) + 1) = X.length + 1 := wrapK _ (by omega) (by omega)
    have hd : s.drop i.toNat = s.getD i.toNat 0 :: s.drop (i.toNat + 1) := drop_cons s _ (by omega)
    have hc0 := bys_get (str_bys hx.1) i.toNat
    have htk : s.take (i.toNat + 1) = s.take i.toNat ++ [s.getD i.toNat 0] := take_snoc s _ (by omega)
    rw [hWl, hX1, hi1, show (i + 1).toNat = i.toNat + 1 by omega]
    simp only [Int.toNat_natCast]
    simp only [hset, hg, hg2]
    rw [hd] at hs
    rw [ht] at htk
    generalize s.getD i.toNat 0 = c at hs hc0 htk
    refine ⟨⟨i0, hlt⟩, fun hc => ⟨fun h20 => parse_bad fun m hm hmt => ?_, fun h20 => ⟨by decide, by omega, by omega, ⟨X ++ [w], [], by omega, by omega, fun x hx => ?_, (fun c hc => by cases hc), ?_, ?_, ?_, ?_⟩, by omega⟩⟩, fun hc => ⟨⟨i0, hlt⟩, fun h => ⟨h, h, i0, hlt⟩, fun hdg => ⟨⟨by omega, by omega⟩, ⟨i0, hlt⟩, ⟨by omega, by omega⟩, ⟨by omega, by simp; omega⟩, ?_⟩, fun hnd => parse_bad fun m hm hmt => ?_⟩⟩
    · subst hc
      rw [led_step] at hs
      have := len_at hm hmt hs (fun x hx => (List.mem_append.1 hx).elim (hX x) (fun h => by rw [List.mem_singleton.1 h]; exact hw46))
      have := (may_args hm).2.1
      rw [List.length_append, List.length_singleton] at *
      omega
    · exact (List.mem_append.1 hx).elim (hX x) (fun h => by rw [List.mem_singleton.1 h]; exact hw46)
    · rw [htk, hc]; simp [ledO]
    · rw [el, List.map_append (l₁ := X ++ [w])]; rfl
    · rw [List.length_append, List.length_singleton]; omega
    · intro a ha
      rcases List.mem_append.1 ha with ha | ha
      · exact hb a ha
      · rw [List.mem_singleton.1 ha]; omega
    · have e2 : IntKind.wrap .i64 (IntKind.wrap .i64 (10 * valD w) + IntKind.wrap .i64 (IntKind.wrap .u8 (c - 48))) = valD (w ++ [c]) := by
        rw [wrap8 (c - 48) (by omega) (by omega), wrapK (c - 48) (by omega) (by omega), wrapK (10 * valD w) (by omega) (by omega), wrapK _ (by omega) (by omega), val_snoc]
      rw [e2]
      have hw2 : ∀ x ∈ w ++ [c], 48 ≤ x ∧ x ≤ 57 := fun x hx => (List.mem_append.1 hx).elim (hw x) (fun h => by rw [List.mem_singleton.1 h]; exact hdg)
      have hw3 : (46 : Int) ∉ w ++ [c] := fun hm => by have := hw2 46 hm; omega
      have hv2 := val_nonneg (w ++ [c]) fun x hx => (hw2 x hx).1
      rw [show w ++ c :: s.drop (i.toNat + 1) = (w ++ [c]) ++ s.drop (i.toNat + 1) by simp] at hs
      refine ⟨fun hbig => parse_bad fun m hm hmt => ?_, fun hsm => ⟨⟨X, w ++ [c], by omega, by omega, hX, hw2, ?_, ?_, ?_, ?_⟩, by omega⟩⟩
      · obtain ⟨a, t, a0, a1, e⟩ := word_in hm hmt hs hX hw3
        have hge := val_ge t (w ++ [c]) hv2 (fun x hx => (dig_bytes a.toNat a0 (by omega) x (by rw [← e]; simp [hx])).1)
        rw [e, val_dig a.toNat a0 (by omega)] at hge
        omega
      · rw [htk]; simp [ledO]
      · rw [List.map_append]; rfl
      · rw [List.length_append, List.length_singleton, List.length_map]; omega
      · intro a ha
        rcases List.mem_append.1 ha with ha | ha
        · exact hb a (by rw [hA]; simp only [List.mem_append]; exact .inl ha)
        · rw [List.mem_singleton.1 ha]; omega
    · rw [show w ++ c :: s.drop (i.toNat + 1) = (w ++ [c]) ++ s.drop (i.toNat + 1) by simp] at hs
      obtain ⟨a, t, a0, a1, e⟩ := word_in hm hmt hs hX (fun h => (List.mem_append.1 h).elim hw46 (fun h => hc (List.mem_singleton.1 h).symm))
      have := dig_bytes a.toNat a0 (by omega) c (by rw [← e]; simp)
      rw [decide_eq_true this.1, decide_eq_true this.2] at hnd
      cases hnd
  · have hs2 : s = ledO X w := by rw [List.drop_of_length_le (by omega), List.append_nil] at hs; exact hs
    rintro ⟨t, e, _⟩ _ hT
    simp only at hT ⊢
    have hall : ∀ m, mayO m = true → txtO m = s → m = l := fun m hm hmt => by
      rw [el, ← words_of hm hmt hs2 hX hw46, val_map fun a ha => ((may_args hm).2.2.1 a ha).1]
    refine ⟨fun h => parse_bad fun m hm hmt => ?_, fun h => ?_⟩
    · have := hall m hm hmt
      subst this
      rw [TxtO, if_pos hm, hmt] at hT
      obtain ⟨rfl, rfl⟩ := Prod.mk.inj hT
      rcases h with h | h <;> exact h rfl
    · simp only [Bool.or_eq_false_iff, decide_eq_false_iff_not, Decidable.not_not] at h
      obtain ⟨rfl, rfl⟩ := h
      by_cases hm : mayO l = true
      · rw [TxtO, if_pos hm] at hT
        exact parB_iff.2 (.inl ⟨rfl, hm, (Prod.mk.inj hT).1.symm⟩)
      · rw [TxtO, if_neg hm] at hT
        exact absurd (Prod.mk.inj hT).2 (by decide)
theorem h17 : c_r03_Parse.ok Tryd.prog GL 17 := con_ok (H := {}) (mkEnv_ok (gl := GL) (l := [(11, conSem c_r03_Text)]) (q := []) (d := []) _ tyOk (by kernel_rfl) ⟨h11.call, trivial⟩ trivial trivial) (by kernel_rfl) (by kernel_rfl) (Eq.mp e17 k17)

end Go.Proofs.YtkdffofjnjamlaaDoor
end
section
/- Contracts. -/
namespace Go.Proofs.YtkdffofjnjamlaaDoor
open Go Go.Vc Go.Pl Go.Proofs
def c_oid_next : Con := { args := [.dat BY, .dat I64], res := [.dat I64, .dat I64], pre := fun x => 0 ≤ x.2.1, post := fun x y => NextD x.1 x.2.1 = (y.1, y.2.1, 0), pan := true, pt := 59, pk := .pair I64 .unit, ppost := fun x e => (NextD x.1 x.2.1).2.2 = e.1 ∧ e.1 ≠ 0 }
def c_oid_split : Con := { args := [.dat I64], res := [.own 3 I64], pre := fun x => 0 ≤ x.1, post := fun x y => y.1 = SplitD x.1 }
def c_oid_Decode : Con := { args := [.dat BY], res := [.own 3 I64, .dat I64], pre := fun _ => True, post := fun x y => (y.1, y.2.1) = DecD x.1 }

end Go.Proofs.YtkdffofjnjamlaaDoor
end
section
/- Walks. -/
namespace Go.Proofs.YtkdffofjnjamlaaDoor
open Go Go.Vc Go.Pl Go.Proofs
set_option linter.unusedVariables false
set_option linter.unusedSimpArgs false
def t30 : Prop :=
  ∀ (x : List Int × Int × Unit),
    Kd.wf (Kd.sl (Kd.int IntKind.u8)) x.fst ∧ Kd.wf (Kd.int IntKind.i64) x.snd.fst ∧ True →
      (0 : Int) ≤ x.snd.fst →
        (decide (x.snd.fst < (↑(List.length x.fst) : Int)) = true → True) ∧
          (decide (x.snd.fst < (↑(List.length x.fst) : Int)) = true → True) ∧
            (decide (x.snd.fst < (↑(List.length x.fst) : Int)) = true →
                (decide (x.snd.fst < (↑(List.length x.fst) : Int)) == true) = true ∧
                  (decide (x.snd.fst < (↑(List.length x.fst) : Int)) == true) = true ∧ ((0 : Int) ≤ x.snd.fst ∧ x.snd.fst < (↑(List.length x.fst) : Int)) ∧ True) ∧
              (decide (x.snd.fst < (↑(List.length x.fst) : Int)) = true → (decide (x.snd.fst < (↑(List.length x.fst) : Int)) == true) = true ∧ True) ∧
                (decide (x.snd.fst < (↑(List.length x.fst) : Int)) = true → (decide (x.snd.fst < (↑(List.length x.fst) : Int)) == true) = true ∧ True) ∧
                  (decide (x.snd.fst < (↑(List.length x.fst) : Int)) = true → (decide (x.snd.fst < (↑(List.length x.fst) : Int)) == true) = true) ∧
                    ((bif decide (x.snd.fst < (↑(List.length x.fst) : Int)) then decide (List.getD x.fst (Int.toNat x.snd.fst) (Kd.dft (Kd.int IntKind.u8)) = (128 : Int)) else false) = true →
                        (NextD x.fst x.snd.fst).snd.snd = (30 : Int) ∧ (30 : Int) ≠ (0 : Int)) ∧
                      ((bif decide (x.snd.fst < (↑(List.length x.fst) : Int)) then decide (List.getD x.fst (Int.toNat x.snd.fst) (Kd.dft (Kd.int IntKind.u8)) = (128 : Int)) else false) = false →
                        ∃ (I : Int × Int × Int × Int × Unit → Unit → Prop),
                          ∃ (μ : Int × Int × Int × Int × Unit → Unit → Nat),
                            (Value.bool false = Value.bool false ∧ x.fst = x.fst ∧ I ((0 : Int), (0 : Int), (0 : Int), x.snd.fst, ()) ()) ∧
                              ∀ (y : Int × Int × Int × Int × Unit) (z : Unit),
                                Kd.wf (Kd.int IntKind.i64) y.fst ∧ Kd.wf (Kd.int IntKind.i64) y.snd.fst ∧ Kd.wf (Kd.int IntKind.i64) y.snd.snd.fst ∧ Kd.wf (Kd.int IntKind.i64) y.snd.snd.snd.fst ∧ True →
                                  True →
                                    I y z →
                                      (decide (y.snd.snd.snd.fst < (↑(List.length x.fst) : Int)) = true →
                                          (0 : Int) ≤ (7 : Int) ∧
                                            ((0 : Int) ≤ y.snd.snd.snd.fst ∧ y.snd.snd.snd.fst < (↑(List.length x.fst) : Int)) ∧
                                              (decide
                                                      ((2147483647 : Int) <
                                                        IntKind.wrap IntKind.i64
                                                          (↑(BitVec.toNat
                                                                (BitVec.ofInt (64 : Nat) (IntKind.wrap IntKind.i64 (y.fst * (2 : Int) ^ (7 : Nat))) |||
                                                                  BitVec.ofInt (64 : Nat)
                                                                    (IntKind.wrap IntKind.i64
                                                                      (IntKind.wrap IntKind.u8
                                                                        (↑(BitVec.toNat
                                                                              (BitVec.ofInt (8 : Nat) (List.getD x.fst (Int.toNat y.snd.snd.snd.fst) (Kd.dft (Kd.int IntKind.u8))) &&&
                                                                                BitVec.ofInt (8 : Nat) (127 : Int))) :
                                                                          Int))))) :
                                                            Int)) =
                                                    true →
                                                  (NextD x.fst x.snd.fst).snd.snd = (31 : Int) ∧ (31 : Int) ≠ (0 : Int)) ∧
                                                (decide
                                                      ((2147483647 : Int) <
                                                        IntKind.wrap IntKind.i64
                                                          (↑(BitVec.toNat
                                                                (BitVec.ofInt (64 : Nat) (IntKind.wrap IntKind.i64 (y.fst * (2 : Int) ^ (7 : Nat))) |||
                                                                  BitVec.ofInt (64 : Nat)
                                                                    (IntKind.wrap IntKind.i64
                                                                      (IntKind.wrap IntKind.u8
                                                                        (↑(BitVec.toNat
                                                                              (BitVec.ofInt (8 : Nat) (List.getD x.fst (Int.toNat y.snd.snd.snd.fst) (Kd.dft (Kd.int IntKind.u8))) &&&
                                                                                BitVec.ofInt (8 : Nat) (127 : Int))) :
                                                                          Int))))) :
                                                            Int)) =
                                                    false →
                                                  ((0 : Int) ≤ y.snd.snd.snd.fst ∧ y.snd.snd.snd.fst < (↑(List.length x.fst) : Int)) ∧
                                                    (decide (List.getD x.fst (Int.toNat y.snd.snd.snd.fst) (Kd.dft (Kd.int IntKind.u8)) < (128 : Int)) = true →
                                                        NextD x.fst x.snd.fst =
                                                          (IntKind.wrap IntKind.i64
                                                              (↑(BitVec.toNat
                                                                    (BitVec.ofInt (64 : Nat) (IntKind.wrap IntKind.i64 (y.fst * (2 : Int) ^ (7 : Nat))) |||
                                                                      BitVec.ofInt (64 : Nat)
                                                                        (IntKind.wrap IntKind.i64
                                                                          (IntKind.wrap IntKind.u8
                                                                            (↑(BitVec.toNat
                                                                                  (BitVec.ofInt (8 : Nat) (List.getD x.fst (Int.toNat y.snd.snd.snd.fst) (Kd.dft (Kd.int IntKind.u8))) &&&
                                                                                    BitVec.ofInt (8 : Nat) (127 : Int))) :
                                                                              Int))))) :
                                                                Int),
                                                            IntKind.wrap IntKind.i64 (y.snd.snd.snd.fst + (1 : Int)), (0 : Int))) ∧
                                                      (decide (List.getD x.fst (Int.toNat y.snd.snd.snd.fst) (Kd.dft (Kd.int IntKind.u8)) < (128 : Int)) = false →
                                                        Value.bool false = Value.bool false ∧
                                                          x.fst = x.fst ∧
                                                            I
                                                                (IntKind.wrap IntKind.i64
                                                                    (↑(BitVec.toNat
                                                                          (BitVec.ofInt (64 : Nat) (IntKind.wrap IntKind.i64 (y.fst * (2 : Int) ^ (7 : Nat))) |||
                                                                            BitVec.ofInt (64 : Nat)
                                                                              (IntKind.wrap IntKind.i64
                                                                                (IntKind.wrap IntKind.u8
                                                                                  (↑(BitVec.toNat
                                                                                        (BitVec.ofInt (8 : Nat) (List.getD x.fst (Int.toNat y.snd.snd.snd.fst) (Kd.dft (Kd.int IntKind.u8))) &&&
                                                                                          BitVec.ofInt (8 : Nat) (127 : Int))) :
                                                                                    Int))))) :
                                                                      Int),
                                                                  y.snd.fst, y.snd.snd.fst, IntKind.wrap IntKind.i64 (y.snd.snd.snd.fst + (1 : Int)), ())
                                                                () ∧
                                                              μ
                                                                  (IntKind.wrap IntKind.i64
                                                                      (↑(BitVec.toNat
                                                                            (BitVec.ofInt (64 : Nat) (IntKind.wrap IntKind.i64 (y.fst * (2 : Int) ^ (7 : Nat))) |||
                                                                              BitVec.ofInt (64 : Nat)
                                                                                (IntKind.wrap IntKind.i64
                                                                                  (IntKind.wrap IntKind.u8
                                                                                    (↑(BitVec.toNat
                                                                                          (BitVec.ofInt (8 : Nat) (List.getD x.fst (Int.toNat y.snd.snd.snd.fst) (Kd.dft (Kd.int IntKind.u8))) &&&
                                                                                            BitVec.ofInt (8 : Nat) (127 : Int))) :
                                                                                      Int))))) :
                                                                        Int),
                                                                    y.snd.fst, y.snd.snd.fst, IntKind.wrap IntKind.i64 (y.snd.snd.snd.fst + (1 : Int)), ())
                                                                  () <
                                                                μ y z))) ∧
                                        (decide (y.snd.snd.snd.fst < (↑(List.length x.fst) : Int)) = false → (NextD x.fst x.snd.fst).snd.snd = (10 : Int) ∧ (10 : Int) ≠ (0 : Int)))
theorem e30 : t30 = Con.vc c_oid_next GL (mkEnv ty [] [] [] [0, 1, 4, 5, 6, 17, 23, 36, 43]) {} Tryd.f30.ntmps Tryd.f30.results.toList (bodyOf Tryd.f30) := by kernel_rfl
theorem k30 : t30 := by
  unfold t30
  rintro ⟨l, i, _⟩ hx hp
  have hp : 0 ≤ i := hp
  have hwl : l.length ≤ 9223372036854775807 := hx.1.1
  have hwf : Bys l := sl_bys hx.1
  try dsimp +instances only [dft_int, dft_sl, dft_str]
  simp only [true_and, and_true, eq_self_iff_true, implies_true, reduceCtorEq, false_implies, true_implies, decide_eq_true_eq, decide_eq_false_iff_not, beq_self_eq_true, Bool.not_eq_true', ne_eq, Decidable.not_not, List.nil_append, List.length_singleton, List.length_cons, List.length_nil, Nat.zero_add, Nat.add_zero, Nat.mul_one, and_self, beq_iff_eq, Bool.not_true, Bool.not_false, Bool.not_eq_false', Bool.cond_false_right, Bool.and_eq_true, imp_self, Bool.not_eq_true, Bool.cond_true_left, Bool.or_eq_true]
  refine ⟨fun h => ⟨h, h, hp, h⟩, fun h => by rw [next_30 l i h.2]; exact ⟨rfl, by decide⟩, fun h => ?_⟩
  have hne : l.getD i.toNat 0 ≠ 128 := fun e => by
    have hlt : i < l.length := by
      by_cases hi : i.toNat < l.length
      · omega
      · rw [List.getD_eq_getElem?_getD, List.getElem?_eq_none (by omega)] at e
        cases e
    rcases Bool.and_eq_false_iff.1 h with h | h
    · exact of_decide_eq_false h hlt
    · exact of_decide_eq_false h e
  have hN := next_go l i hne
  rw [hN]
  refine ⟨fun y _ => 0 ≤ y.1 ∧ y.1 ≤ 2147483647 ∧ 0 ≤ y.2.2.2.1 ∧ nextR (l.drop i.toNat) 0 i = nextR (l.drop y.2.2.2.1.toNat) y.1 y.2.2.2.1, fun y _ => ((l.length : Int) - y.2.2.2.1).toNat, ⟨by omega, by omega, hp, rfl⟩, ?_⟩
  rintro ⟨v, r1, r2, p, _⟩ z _ ⟨h0, h1, h2, h3⟩
  simp only at h0 h1 h2 h3 ⊢
  refine ⟨fun hlt => ?_, fun hge => ?_⟩
  · have hb := bys_get hwf p.toNat
    have hor := or7 v _ hb ⟨h0, h1⟩
    have hw : IntKind.wrap .i64 (p + 1) = p + 1 := by rw [IntKind.wrap_i64]; omega
    rw [hor, hw]
    rw [drop_cons l p.toNat (by omega)] at h3
    have e1 : (p + 1).toNat = p.toNat + 1 := by omega
    generalize l.getD p.toNat 0 = b at hb h3 ⊢
    have e : nextR (b :: l.drop (p.toNat + 1)) v p = if 2147483647 < v * 128 + b % 128 then (0, 0, 31) else if b < 128 then (v * 128 + b % 128, p + 1, 0) else nextR (l.drop (p.toNat + 1)) (v * 128 + b % 128) (p + 1) := rfl
    rw [e] at h3
    refine ⟨by decide, ⟨h2, hlt⟩, fun hc => by rw [h3, if_pos hc]; exact ⟨rfl, by decide⟩, fun hc => ⟨⟨h2, hlt⟩, fun hd => by rw [h3, if_neg hc, if_pos hd], fun hd => ⟨⟨by omega, by omega, by omega, ?_⟩, by omega⟩⟩⟩
    rw [e1, h3, if_neg hc, if_neg hd]
  · rw [h3, List.drop_of_length_le (by omega)]
    exact ⟨rfl, by decide⟩
theorem h30 : c_oid_next.ok Tryd.prog GL 30 := con_ok (H := {}) (mkEnv_ok (gl := GL) (l := []) (q := []) (d := []) _ tyOk (by kernel_rfl) trivial trivial trivial) (by kernel_rfl) (by kernel_rfl) (Eq.mp e30 k30)

def t31 : Prop :=
  ∀ (x : Int × Unit),
    Kd.wf (Kd.int IntKind.i64) x.fst ∧ True →
      (0 : Int) ≤ x.fst →
        (40 : Int) ≠ (0 : Int) ∧
          [if (2 : Int) < IntKind.wrap IntKind.i64 (Int.tdiv x.fst (40 : Int)) then (2 : Int) else IntKind.wrap IntKind.i64 (Int.tdiv x.fst (40 : Int)),
              IntKind.wrap IntKind.i64
                (x.fst -
                  IntKind.wrap IntKind.i64 ((40 : Int) * if (2 : Int) < IntKind.wrap IntKind.i64 (Int.tdiv x.fst (40 : Int)) then (2 : Int) else IntKind.wrap IntKind.i64 (Int.tdiv x.fst (40 : Int))))] =
            SplitD x.fst
theorem e31 : t31 = Con.vc c_oid_split GL (mkEnv ty [] [] [] [0, 2, 3]) {} Tryd.f31.ntmps Tryd.f31.results.toList (bodyOf Tryd.f31) := by kernel_rfl
theorem k31 : t31 := by
  unfold t31
  rintro ⟨v, _⟩ hx hp
  have hp : 0 ≤ v := hp
  have hr : v ≤ 9223372036854775807 := by
    have h : InR .i64 v := hx.1
    simp [InR, IntKind.min, IntKind.max, IntKind.signed, IntKind.bits] at h
    exact h.2
  try dsimp +instances only [dft_int, dft_sl, dft_str]
  simp only [true_and, and_true, eq_self_iff_true, implies_true, reduceCtorEq, false_implies, true_implies, decide_eq_true_eq, decide_eq_false_iff_not, beq_self_eq_true, Bool.not_eq_true', ne_eq, Decidable.not_not, List.nil_append, List.length_singleton, List.length_cons, List.length_nil, Nat.zero_add, Nat.add_zero, Nat.mul_one, and_self, beq_iff_eq, Bool.not_true, Bool.not_false, Bool.not_eq_false', Bool.cond_false_right, Bool.and_eq_true, imp_self, Bool.not_eq_true, Bool.cond_true_left, Bool.or_eq_true]
  have hw : IntKind.wrap .i64 (v.tdiv 40) = v / 40 := by rw [Int.tdiv_eq_ediv_of_nonneg hp, IntKind.wrap_i64]; omega
  refine ⟨by decide, ?_⟩
  by_cases h : 2 < IntKind.wrap .i64 (v.tdiv 40)
  · rw [if_pos h]
    rw [hw] at h
    rw [SplitD, if_neg (by omega), if_neg (by omega), wrapK (40 * 2) (by decide) (by decide), wrapM (v - 40 * 2) (by omega) (by omega)]
    rfl
  · rw [if_neg h, hw]
    rw [hw] at h
    rw [wrapK (40 * (v / 40)) (by omega) (by omega), wrapK _ (by omega) (by omega)]
    unfold SplitD
    by_cases h1 : v < 40
    · rw [if_pos h1, show v / 40 = 0 by omega]; simp
    · rw [if_neg h1]
      by_cases h2 : v < 80
      · rw [if_pos h2, show v / 40 = 1 by omega]; simp
      · rw [if_neg h2, show v / 40 = 2 by omega]; simp
theorem h31 : c_oid_split.ok Tryd.prog GL 31 := con_ok (H := {}) (mkEnv_ok (gl := GL) (l := []) (q := []) (d := []) _ tyOk (by kernel_rfl) trivial trivial trivial) (by kernel_rfl) (by kernel_rfl) (Eq.mp e31 k31)

noncomputable def i29 : DefSem := vcDef (mkEnv ty [] [] [] [0, 1, 2, 3, 4, 7, 14]) {} Tryd.f29.ntmps Tryd.f29.results.toList (bodyOf Tryd.f29)
theorem i29_ok : DefOk Tryd.prog GL 29 i29 := def_ok {} (mkEnv_ok (gl := GL) (l := []) (q := []) (d := []) _ tyOk (by kernel_rfl) trivial trivial trivial) (by kernel_rfl) (by kernel_rfl)

def t19 : Prop :=
  ∀ (x : List Int × Unit),
    Kd.wf (Kd.sl (Kd.int IntKind.u8)) x.fst ∧ True →
      True →
        (1 : Nat) ≤ (65536 : Nat) ∧
          (1 : Nat) ≤ (65536 : Nat) ∧
            (0 : Int) ≤ (0 : Int) ∧
              (∀ (y : Int × Int × Unit),
                  Kd.wf (Kd.int IntKind.i64) y.fst ∧ Kd.wf (Kd.int IntKind.i64) y.snd.fst ∧ True →
                    NextD x.fst (0 : Int) = (y.fst, y.snd.fst, (0 : Int)) →
                      (0 : Int) ≤ y.fst ∧
                        (∀ (y_1 : List Int × Unit),
                            Kd.wf (Kd.sl (Kd.int IntKind.i64)) y_1.fst ∧ True →
                              y_1.fst = SplitD y.fst →
                                ∃ (I : Int × Int × Unit → Unit × (Int × Unit) × List Int × Unit → Prop),
                                  ∃ (μ : Int × Int × Unit → Unit × (Int × Unit) × List Int × Unit → Nat),
                                    (x.fst = x.fst ∧ I (y.snd.fst, y.fst, ()) ((), ((0 : Int), ()), y_1.fst, ())) ∧
                                      ∀ (y : Int × Int × Unit) (z : Unit × (Int × Unit) × List Int × Unit),
                                        Kd.wf (Kd.int IntKind.i64) y.fst ∧ Kd.wf (Kd.int IntKind.i64) y.snd.fst ∧ True →
                                          True ∧ (Kd.wf (Kd.int IntKind.i64) z.snd.fst.fst ∧ True) ∧ Kd.wf (Kd.sl (Kd.int IntKind.i64)) z.snd.snd.fst ∧ True →
                                            I y z →
                                              (decide (y.fst < (↑(List.length x.fst) : Int)) = true →
                                                  (decide ((↑(List.length z.snd.snd.fst) : Int) = (20 : Int)) = true → ([], (32 : Int)) = DecD x.fst) ∧
                                                    (decide ((↑(List.length z.snd.snd.fst) : Int) = (20 : Int)) = false →
                                                      (0 : Int) ≤ y.fst ∧
                                                        (∀ (y_2 : Int × Int × Unit),
                                                            Kd.wf (Kd.int IntKind.i64) y_2.fst ∧ Kd.wf (Kd.int IntKind.i64) y_2.snd.fst ∧ True →
                                                              NextD x.fst y.fst = (y_2.fst, y_2.snd.fst, (0 : Int)) →
                                                                (0 : Nat) < (1 : Nat) ∧
                                                                  (List.length z.snd.snd.fst + List.length [y_2.fst]) * (8 : Nat) ≤ (140737488355328 : Nat) ∧
                                                                    List.length z.snd.snd.fst + List.length [y_2.fst] ≤ (9223372036854775807 : Nat) ∧
                                                                      x.fst = x.fst ∧
                                                                        I (y_2.snd.fst, y_2.fst, ()) ((), (z.snd.fst.fst, ()), z.snd.snd.fst ++ [y_2.fst], ()) ∧
                                                                          μ (y_2.snd.fst, y_2.fst, ()) ((), (z.snd.fst.fst, ()), z.snd.snd.fst ++ [y_2.fst], ()) < μ y z) ∧
                                                          ∀ (y_2 : Int × Unit),
                                                            Kd.wf (Kd.pair (Kd.int IntKind.i64) Kd.unit) y_2 →
                                                              (NextD x.fst y.fst).snd.snd = y_2.fst ∧ y_2.fst ≠ (0 : Int) →
                                                                (1 : Nat) ≤ (65536 : Nat) ∧ ((([], y_2.fst) = DecD x.fst ∧ True) ∧ True) ∧ ((([], y_2.fst) = DecD x.fst ∧ True) ∧ True) ∧ True)) ∧
                                                (decide (y.fst < (↑(List.length x.fst) : Int)) = false → (z.snd.snd.fst, (0 : Int)) = DecD x.fst)) ∧
                          True) ∧
                ∀ (y : Int × Unit),
                  Kd.wf (Kd.pair (Kd.int IntKind.i64) Kd.unit) y →
                    (NextD x.fst (0 : Int)).snd.snd = y.fst ∧ y.fst ≠ (0 : Int) →
                      (1 : Nat) ≤ (65536 : Nat) ∧ ((([], y.fst) = DecD x.fst ∧ True) ∧ True) ∧ ((([], y.fst) = DecD x.fst ∧ True) ∧ True) ∧ True
theorem e19 : t19 = Con.vc c_oid_Decode GL (mkEnv ty [(30, conSem c_oid_next), (31, conSem c_oid_split)] [] [(29, i29)] [0, 2, 3, 4, 5, 17, 20]) {} Tryd.f19.ntmps Tryd.f19.results.toList (bodyOf Tryd.f19) := by kernel_rfl
theorem k19 : t19 := by
  unfold t19
  rintro ⟨l, _⟩ hx hp
  have hwf : Bys l := sl_bys hx.1
  try dsimp +instances only [dft_int, dft_sl, dft_str]
  simp only [true_and, and_true, eq_self_iff_true, implies_true, reduceCtorEq, false_implies, true_implies, decide_eq_true_eq, decide_eq_false_iff_not, beq_self_eq_true, Bool.not_eq_true', ne_eq, Decidable.not_not, List.nil_append, List.length_singleton, List.length_cons, List.length_nil, Nat.zero_add, Nat.add_zero, Nat.mul_one, and_self, beq_iff_eq, Bool.not_true, Bool.not_false, Bool.not_eq_false', Bool.cond_false_right, Bool.and_eq_true, imp_self, Bool.not_eq_true, Bool.cond_true_left, Bool.or_eq_true]
  refine ⟨by decide, by decide, by decide, ?_, ?_⟩
  · rintro ⟨x, j, _⟩ _ e
    simp only at e ⊢
    have hok := next_ok hwf 0 (by decide) (by rw [e])
    rw [e] at hok
    simp only at hok
    refine ⟨hok.1, ?_⟩
    rintro ⟨s, _⟩ _ es
    simp only at es ⊢
    have hD : DecD l = decR l l.length (SplitD x) j := by rw [DecD, e, if_neg (by simp)]
    refine ⟨fun y z => 0 ≤ y.1 ∧ z.2.2.1.length ≤ 20 ∧ ∃ n : Nat, (l.length : Int) - y.1 ≤ n ∧ DecD l = decR l n z.2.2.1 y.1, fun y _ => ((l.length : Int) - y.1).toNat, ⟨by omega, by rw [es, splitD_len]; decide, l.length, by omega, by rw [es]; exact hD⟩, ?_⟩
    rintro ⟨i, v, _⟩ ⟨_, ⟨c, _⟩, acc, _⟩ _ _ ⟨h0, h20, n, hn, hd⟩
    simp only at h0 h20 hn hd ⊢
    refine ⟨fun hlt => ?_, fun hge => ?_⟩
    · obtain ⟨m, rfl⟩ : ∃ m, n = m + 1 := ⟨n - 1, by omega⟩
      rw [dec_step l m acc i hlt] at hd
      refine ⟨fun h => by rw [hd, if_pos (by omega)], fun h => ⟨h0, ?_, ?_⟩⟩
      · rintro ⟨x', j', _⟩ _ e'
        simp only at e' ⊢
        have hok' := next_ok hwf i h0 (by rw [e'])
        rw [e'] at hok'
        simp only at hok'
        rw [if_neg (by omega), e', if_neg (by simp)] at hd
        exact ⟨by decide, by omega, by omega, ⟨by omega, by simp; omega, m, by omega, hd⟩, by omega⟩
      · rintro ⟨q, _⟩ _ ⟨h1, h2⟩
        simp only at h1 h2 ⊢
        exact ⟨by decide, by rw [hd, if_neg (by omega), if_pos (by rw [h1]; exact h2), h1]⟩
    · rw [hd, dec_end l n acc i hge]
  · rintro ⟨q, _⟩ _ ⟨h1, h2⟩
    simp only at h1 h2 ⊢
    exact ⟨by decide, by rw [DecD, if_pos (by rw [h1]; exact h2), h1]⟩
theorem h19 : c_oid_Decode.ok Tryd.prog GL 19 := con_ok (H := {}) (mkEnv_ok (gl := GL) (l := [(30, conSem c_oid_next), (31, conSem c_oid_split)]) (q := []) (d := [(29, i29)]) _ tyOk (by kernel_rfl) ⟨h30.call, h31.call, trivial⟩ trivial ⟨i29_ok, trivial⟩) (by kernel_rfl) (by kernel_rfl) (Eq.mp e19 k19)

end Go.Proofs.YtkdffofjnjamlaaDoor
end
section
/- Contracts. -/
namespace Go.Proofs.YtkdffofjnjamlaaDoor
open Go Go.Vc Go.Pl Go.Proofs
def c_cmp_Compare_int : Con := { args := [.dat I64, .dat I64], res := [.dat I64], pre := fun _ => True, post := fun x y => y.1 = cmpI x.1 x.2.1 }
def c_slices_Compare_int_int : Con := { args := [.dat (.sl I64), .dat (.sl I64)], res := [.dat I64], pre := fun _ => True, post := fun x y => y.1 = CmpD x.1 x.2.1 }
def c_oid_Compare : Con := { args := [.dat (.sl I64), .dat (.sl I64)], res := [.dat I64], pre := fun _ => True, post := fun x y => y.1 = CmpD x.1 x.2.1 }

end Go.Proofs.YtkdffofjnjamlaaDoor
end
section
/- Walks. -/
namespace Go.Proofs.YtkdffofjnjamlaaDoor
open Go Go.Vc Go.Pl Go.Proofs
set_option linter.unusedVariables false
set_option linter.unusedSimpArgs false
noncomputable def i53 : CallSem := vcFn (mkEnv ty [] [] [] [0, 2]) {} Tryd.f53.ntmps Tryd.f53.results.toList (bodyOf Tryd.f53)
theorem i53_ok : CallOk Tryd.prog GL 53 i53 := inl_ok {} (mkEnv_ok (gl := GL) (l := []) (q := []) (d := []) _ tyOk (by kernel_rfl) trivial trivial trivial) (by kernel_rfl) (by kernel_rfl)

def t41 : Prop :=
  ∀ (x : Int × Int × Unit),
    Kd.wf (Kd.int IntKind.i64) x.fst ∧ Kd.wf (Kd.int IntKind.i64) x.snd.fst ∧ True →
      True →
        (decide (x.fst ≠ x.fst) = true → (decide (x.snd.fst ≠ x.snd.fst) = true → (0 : Int) = cmpI x.fst x.snd.fst) ∧ (decide (x.snd.fst ≠ x.snd.fst) = false → (-1 : Int) = cmpI x.fst x.snd.fst)) ∧
          (decide (x.fst ≠ x.fst) = false →
            (decide (x.snd.fst ≠ x.snd.fst) = true → (1 : Int) = cmpI x.fst x.snd.fst) ∧
              (decide (x.snd.fst ≠ x.snd.fst) = false →
                (decide (x.fst < x.snd.fst) = true → (-1 : Int) = cmpI x.fst x.snd.fst) ∧
                  (decide (x.fst < x.snd.fst) = false →
                    (decide (x.snd.fst < x.fst) = true → (1 : Int) = cmpI x.fst x.snd.fst) ∧ (decide (x.snd.fst < x.fst) = false → (0 : Int) = cmpI x.fst x.snd.fst))))
theorem e41 : t41 = Con.vc c_cmp_Compare_int GL (mkEnv ty [(53, i53)] [] [] [0, 1, 4, 5, 6, 11, 12, 13, 16, 19]) {} Tryd.f41.ntmps Tryd.f41.results.toList (bodyOf Tryd.f41) := by kernel_rfl
theorem k41 : t41 := by
  unfold t41
  rintro ⟨a, b, _⟩ hx hp
  simp only [true_and, and_true, eq_self_iff_true, implies_true, reduceCtorEq, false_implies, true_implies, decide_eq_true_eq, decide_eq_false_iff_not, beq_self_eq_true, Bool.not_eq_true', ne_eq, Decidable.not_not, List.nil_append, List.length_singleton, List.length_cons, List.length_nil, Nat.zero_add, Nat.add_zero, Nat.mul_one, and_self, beq_iff_eq, Bool.not_true, Bool.not_false, Bool.not_eq_false', Bool.cond_false_right, Bool.and_eq_true, imp_self, Bool.not_eq_true, Bool.cond_true_left, Bool.or_eq_true, cmpI]
  refine ⟨fun h => absurd trivial h, fun h => absurd trivial h, fun h => by rw [if_pos h], fun h => ⟨fun h2 => by rw [if_neg h, if_pos h2], fun h2 => by rw [if_neg h, if_neg h2]⟩⟩
theorem h41 : c_cmp_Compare_int.ok Tryd.prog GL 41 := con_ok (H := {}) (mkEnv_ok (gl := GL) (l := [(53, i53)]) (q := []) (d := []) _ tyOk (by kernel_rfl) ⟨i53_ok, trivial⟩ trivial trivial) (by kernel_rfl) (by kernel_rfl) (Eq.mp e41 k41)

def t32 : Prop :=
  ∀ (x : List Int × List Int × Unit),
    Kd.wf (Kd.sl (Kd.int IntKind.i64)) x.fst ∧ Kd.wf (Kd.sl (Kd.int IntKind.i64)) x.snd.fst ∧ True →
      True →
        ∃ (I : Int × Int × Unit → Unit → Prop),
          ∃ (μ : Int × Int × Unit → Unit → Nat),
            ((↑(List.length x.fst) : Int) = (↑(List.length x.fst) : Int) ∧ x.fst = x.fst ∧ x.fst = x.fst ∧ x.snd.fst = x.snd.fst ∧ I ((0 : Int), (0 : Int), ()) ()) ∧
              ∀ (y : Int × Int × Unit) (z : Unit),
                Kd.wf (Kd.int IntKind.i64) y.fst ∧ Kd.wf (Kd.int IntKind.i64) y.snd.fst ∧ True →
                  True →
                    I y z →
                      (decide (y.fst < (↑(List.length x.fst) : Int)) = true →
                          ((0 : Int) ≤ y.fst ∧ y.fst < (↑(List.length x.fst) : Int)) ∧
                            (decide ((↑(List.length x.snd.fst) : Int) ≤ y.fst) = true → (1 : Int) = CmpD x.fst x.snd.fst) ∧
                              (decide ((↑(List.length x.snd.fst) : Int) ≤ y.fst) = false →
                                ((0 : Int) ≤ y.fst ∧ y.fst < (↑(List.length x.snd.fst) : Int)) ∧
                                  True ∧
                                    (∀ (y_1 : Int × Unit),
                                        Kd.wf (Kd.int IntKind.i64) y_1.fst ∧ True →
                                          y_1.fst = cmpI (List.getD x.fst (Int.toNat y.fst) (Kd.dft (Kd.int IntKind.i64))) (List.getD x.snd.fst (Int.toNat y.fst) (Kd.dft (Kd.int IntKind.i64))) →
                                            (decide (y_1.fst ≠ (0 : Int)) = true → y_1.fst = CmpD x.fst x.snd.fst) ∧
                                              (decide (y_1.fst ≠ (0 : Int)) = false →
                                                (↑(List.length x.fst) : Int) = (↑(List.length x.fst) : Int) ∧
                                                  x.fst = x.fst ∧
                                                    x.fst = x.fst ∧
                                                      x.snd.fst = x.snd.fst ∧
                                                        I (IntKind.wrap IntKind.i64 (y.fst + (1 : Int)), y.snd.fst, ()) () ∧
                                                          μ (IntKind.wrap IntKind.i64 (y.fst + (1 : Int)), y.snd.fst, ()) () < μ y z)) ∧
                                      True)) ∧
                        (decide (y.fst < (↑(List.length x.fst) : Int)) = false →
                          (decide ((↑(List.length x.fst) : Int) < (↑(List.length x.snd.fst) : Int)) = true → (-1 : Int) = CmpD x.fst x.snd.fst) ∧
                            (decide ((↑(List.length x.fst) : Int) < (↑(List.length x.snd.fst) : Int)) = false → (0 : Int) = CmpD x.fst x.snd.fst))
theorem e32 : t32 = Con.vc c_slices_Compare_int_int GL (mkEnv ty [(41, conSem c_cmp_Compare_int)] [] [] [0, 1, 4, 5, 6, 7, 8, 9, 10, 11, 12, 19, 28, 35]) {} Tryd.f32.ntmps Tryd.f32.results.toList (bodyOf Tryd.f32) := by kernel_rfl
theorem k32 : t32 := by
  unfold t32
  rintro ⟨a, b, _⟩ hx hp
  have hl : a.length ≤ 9223372036854775807 := hx.1.1
  simp only [true_and, and_true, eq_self_iff_true, implies_true, reduceCtorEq, false_implies, true_implies, decide_eq_true_eq, decide_eq_false_iff_not, beq_self_eq_true, Bool.not_eq_true', ne_eq, Decidable.not_not, List.nil_append, List.length_singleton, List.length_cons, List.length_nil, Nat.zero_add, Nat.add_zero, Nat.mul_one, and_self, beq_iff_eq, Bool.not_true, Bool.not_false, Bool.not_eq_false', Bool.cond_false_right, Bool.and_eq_true, imp_self, Bool.not_eq_true, Bool.cond_true_left, Bool.or_eq_true]
  refine ⟨fun y _ => 0 ≤ y.1 ∧ y.1 ≤ a.length ∧ y.1 ≤ b.length ∧ CmpD (a.drop y.1.toNat) (b.drop y.1.toNat) = CmpD a b, fun y _ => (a.length - y.1).toNat, ⟨by omega, by omega, by omega, rfl⟩, ?_⟩
  rintro ⟨i, _, _⟩ _ hw ⟨h1, h2, h3, h4⟩
  simp only at h1 h2 h3 h4 hw ⊢
  refine ⟨fun hc => ⟨by omega, fun h => ?_, fun h => ⟨by omega, ?_⟩⟩, fun hc => ⟨fun h => ?_, fun h => ?_⟩⟩
  · rw [← h4, cmp_gt _ _ _ (by omega) (by omega)]
  · rintro ⟨c, _⟩ hwc ec
    simp only at ec ⊢
    have hd : Kd.dft (Kd.int .i64) = (0 : Int) := rfl
    rw [hd] at ec
    have hs := cmp_step a b i.toNat (by omega) (by omega)
    rw [h4, ← ec] at hs
    refine ⟨fun hne => ?_, fun h0 => ?_⟩
    · rw [hs, if_neg hne]
    · rw [wrapM (i + 1) (by omega) (by omega)]
      rw [if_pos h0] at hs
      exact ⟨⟨by omega, by omega, by omega, by rw [show (i + 1).toNat = i.toNat + 1 by omega]; exact hs.symm⟩, by omega⟩
  · rw [← h4, cmp_lt _ _ _ (by omega) (by omega)]
  · rw [← h4, cmp_eq _ _ _ (by omega) (by omega)]
theorem h32 : c_slices_Compare_int_int.ok Tryd.prog GL 32 := con_ok (H := {}) (mkEnv_ok (gl := GL) (l := [(41, conSem c_cmp_Compare_int)]) (q := []) (d := []) _ tyOk (by kernel_rfl) ⟨h41.call, trivial⟩ trivial trivial) (by kernel_rfl) (by kernel_rfl) (Eq.mp e32 k32)

def t20 : Prop :=
  ∀ (x : List Int × List Int × Unit),
    Kd.wf (Kd.sl (Kd.int IntKind.i64)) x.fst ∧ Kd.wf (Kd.sl (Kd.int IntKind.i64)) x.snd.fst ∧ True →
      True → True ∧ (∀ (y : Int × Unit), Kd.wf (Kd.int IntKind.i64) y.fst ∧ True → y.fst = CmpD x.fst x.snd.fst → y.fst = CmpD x.fst x.snd.fst) ∧ True
theorem e20 : t20 = Con.vc c_oid_Compare GL (mkEnv ty [(32, conSem c_slices_Compare_int_int)] [] [] [0, 1, 4]) {} Tryd.f20.ntmps Tryd.f20.results.toList (bodyOf Tryd.f20) := by kernel_rfl
theorem k20 : t20 := by
  unfold t20
  intro x hx hp
  simp only [true_and, and_true, eq_self_iff_true, implies_true, reduceCtorEq, false_implies, true_implies, decide_eq_true_eq, decide_eq_false_iff_not, beq_self_eq_true, Bool.not_eq_true', ne_eq, Decidable.not_not, List.nil_append, List.length_singleton, List.length_cons, List.length_nil, Nat.zero_add, Nat.add_zero, Nat.mul_one, and_self, beq_iff_eq, Bool.not_true, Bool.not_false, Bool.not_eq_false', Bool.cond_false_right, Bool.and_eq_true, imp_self, Bool.not_eq_true, Bool.cond_true_left, Bool.or_eq_true]
theorem h20 : c_oid_Compare.ok Tryd.prog GL 20 := con_ok (H := {}) (mkEnv_ok (gl := GL) (l := [(32, conSem c_slices_Compare_int_int)]) (q := []) (d := []) _ tyOk (by kernel_rfl) ⟨h32.call, trivial⟩ trivial trivial) (by kernel_rfl) (by kernel_rfl) (Eq.mp e20 k20)

end Go.Proofs.YtkdffofjnjamlaaDoor
end
section
/- Contracts. -/
namespace Go.Proofs.YtkdffofjnjamlaaDoor
open Go Go.Vc Go.Pl Go.Proofs
def c_r03_Compare : Con := { args := [.dat (.sl I64), .dat (.sl I64)], res := [.dat I64], pre := fun _ => True, post := fun x y => x.1 = x.2.1 → y.1 = 0 }
def c_law03_same : Con := { args := [.dat (.sl I64), .dat (.sl I64)], res := [.dat .bool], pre := fun _ => True, post := fun x y => x.1 = x.2.1 → y.1 = true }
def c_law03_names : Con := { args := [], res := [.dat .bool], pre := fun _ => True, post := fun _ y => y.1 = true }

end Go.Proofs.YtkdffofjnjamlaaDoor
end
section
/- Walks. -/
namespace Go.Proofs.YtkdffofjnjamlaaDoor
open Go Go.Vc Go.Pl Go.Proofs
set_option linter.unusedVariables false
set_option linter.unusedSimpArgs false
def t37 : Prop :=
  ∀ (x : List Int × List Int × Unit),
    Kd.wf (Kd.sl (Kd.int IntKind.i64)) x.fst ∧ Kd.wf (Kd.sl (Kd.int IntKind.i64)) x.snd.fst ∧ True →
      True →
        ∃ (I : Int × Int × Unit → Unit → Prop),
          ∃ (μ : Int × Int × Unit → Unit → Nat),
            (x.fst = x.fst ∧ x.snd.fst = x.snd.fst ∧ I ((0 : Int), (0 : Int), ()) ()) ∧
              ∀ (y : Int × Int × Unit) (z : Unit),
                Kd.wf (Kd.int IntKind.i64) y.fst ∧ Kd.wf (Kd.int IntKind.i64) y.snd.fst ∧ True →
                  True →
                    I y z →
                      (decide (y.fst < (↑(List.length x.fst) : Int)) = true → True) ∧
                        (decide (y.fst < (↑(List.length x.fst) : Int)) = true → True) ∧
                          (decide (y.fst < (↑(List.length x.fst) : Int)) = true → (decide (y.fst < (↑(List.length x.fst) : Int)) == true) = true ∧ True) ∧
                            (decide (y.fst < (↑(List.length x.fst) : Int)) = true →
                                (decide (y.fst < (↑(List.length x.fst) : Int)) == true) = true ∧ (decide (y.fst < (↑(List.length x.fst) : Int)) == true) = true ∧ True) ∧
                              (decide (y.fst < (↑(List.length x.fst) : Int)) = true → (decide (y.fst < (↑(List.length x.fst) : Int)) == true) = true) ∧
                                ((bif decide (y.fst < (↑(List.length x.fst) : Int)) then decide (y.fst < (↑(List.length x.snd.fst) : Int)) else false) = true →
                                    ((0 : Int) ≤ y.fst ∧ y.fst < (↑(List.length x.fst) : Int)) ∧
                                      ((0 : Int) ≤ y.fst ∧ y.fst < (↑(List.length x.snd.fst) : Int)) ∧
                                        (decide (List.getD x.fst (Int.toNat y.fst) (Kd.dft (Kd.int IntKind.i64)) < List.getD x.snd.fst (Int.toNat y.fst) (Kd.dft (Kd.int IntKind.i64))) = true →
                                            x.fst = x.snd.fst → (-1 : Int) = (0 : Int)) ∧
                                          (decide (List.getD x.fst (Int.toNat y.fst) (Kd.dft (Kd.int IntKind.i64)) < List.getD x.snd.fst (Int.toNat y.fst) (Kd.dft (Kd.int IntKind.i64))) = false →
                                            ((0 : Int) ≤ y.fst ∧ y.fst < (↑(List.length x.fst) : Int)) ∧
                                              ((0 : Int) ≤ y.fst ∧ y.fst < (↑(List.length x.snd.fst) : Int)) ∧
                                                (decide (List.getD x.snd.fst (Int.toNat y.fst) (Kd.dft (Kd.int IntKind.i64)) < List.getD x.fst (Int.toNat y.fst) (Kd.dft (Kd.int IntKind.i64))) = true →
                                                    x.fst = x.snd.fst → (1 : Int) = (0 : Int)) ∧
                                                  (decide (List.getD x.snd.fst (Int.toNat y.fst) (Kd.dft (Kd.int IntKind.i64)) < List.getD x.fst (Int.toNat y.fst) (Kd.dft (Kd.int IntKind.i64))) =
                                                      false →
                                                    x.fst = x.fst ∧
                                                      x.snd.fst = x.snd.fst ∧
                                                        I (IntKind.wrap IntKind.i64 (y.fst + (1 : Int)), y.snd.fst, ()) () ∧
                                                          μ (IntKind.wrap IntKind.i64 (y.fst + (1 : Int)), y.snd.fst, ()) () < μ y z))) ∧
                                  ((bif decide (y.fst < (↑(List.length x.fst) : Int)) then decide (y.fst < (↑(List.length x.snd.fst) : Int)) else false) = false →
                                    (decide ((↑(List.length x.fst) : Int) < (↑(List.length x.snd.fst) : Int)) = true → x.fst = x.snd.fst → (-1 : Int) = (0 : Int)) ∧
                                      (decide ((↑(List.length x.fst) : Int) < (↑(List.length x.snd.fst) : Int)) = false →
                                        (decide ((↑(List.length x.snd.fst) : Int) < (↑(List.length x.fst) : Int)) = true → x.fst = x.snd.fst → (1 : Int) = (0 : Int)) ∧
                                          (decide ((↑(List.length x.snd.fst) : Int) < (↑(List.length x.fst) : Int)) = false → x.fst = x.snd.fst → (0 : Int) = (0 : Int))))
theorem e37 : t37 = Con.vc c_r03_Compare GL (mkEnv ty [] [] [] [0, 1, 4, 5, 15, 26, 35, 40, 45]) {} Tryd.f37.ntmps Tryd.f37.results.toList (bodyOf Tryd.f37) := by kernel_rfl
theorem k37 : t37 := by
  unfold t37
  rintro ⟨a, b, _⟩ hx hp
  have hl : a.length ≤ 9223372036854775807 := hx.1.1
  try dsimp +instances only [dft_int, dft_sl, dft_str]
  simp only [true_and, and_true, eq_self_iff_true, implies_true, reduceCtorEq, false_implies, true_implies, decide_eq_true_eq, decide_eq_false_iff_not, beq_self_eq_true, Bool.not_eq_true', ne_eq, Decidable.not_not, List.nil_append, List.length_singleton, List.length_cons, List.length_nil, Nat.zero_add, Nat.add_zero, Nat.mul_one, and_self, beq_iff_eq, Bool.not_true, Bool.not_false, Bool.not_eq_false', Bool.cond_false_right, Bool.and_eq_true, imp_self, Bool.not_eq_true, Bool.cond_true_left, Bool.or_eq_true]
  refine ⟨fun y _ => 0 ≤ y.1 ∧ y.1 ≤ a.length, fun y _ => ((a.length : Int) - y.1).toNat, ⟨Int.le_refl 0, by simp only; omega⟩, ?_⟩
  rintro ⟨i, r, _⟩ _ _ ⟨i0, i1⟩
  simp only at i0 i1 ⊢
  refine ⟨fun h => ?_, fun _ => ⟨fun h e => by subst e; omega, fun _ h e => by subst e; omega⟩⟩
  rw [wrapM (i + 1) (by omega) (by omega)]
  exact ⟨⟨i0, h.1⟩, ⟨i0, h.2⟩, fun hlt e => by subst e; omega, fun _ => ⟨⟨i0, h.1⟩, ⟨i0, h.2⟩, fun hlt e => by subst e; omega, fun _ => ⟨⟨by omega, by omega⟩, by omega⟩⟩⟩
theorem h37 : c_r03_Compare.ok Tryd.prog GL 37 := con_ok (H := {}) (mkEnv_ok (gl := GL) (l := []) (q := []) (d := []) _ tyOk (by kernel_rfl) trivial trivial trivial) (by kernel_rfl) (by kernel_rfl) (Eq.mp e37 k37)

def t26 : Prop :=
  ∀ (x : List Int × List Int × Unit),
    Kd.wf (Kd.sl (Kd.int IntKind.i64)) x.fst ∧ Kd.wf (Kd.sl (Kd.int IntKind.i64)) x.snd.fst ∧ True →
      True → True ∧ (∀ (y : Int × Unit), Kd.wf (Kd.int IntKind.i64) y.fst ∧ True → (x.fst = x.snd.fst → y.fst = (0 : Int)) → x.fst = x.snd.fst → decide (y.fst = (0 : Int)) = true) ∧ True
theorem e26 : t26 = Con.vc c_law03_same GL (mkEnv ty [(37, conSem c_r03_Compare)] [] [] [0, 1, 4]) {} Tryd.f26.ntmps Tryd.f26.results.toList (bodyOf Tryd.f26) := by kernel_rfl
theorem k26 : t26 := by
  unfold t26
  rintro ⟨a, b, _⟩ hx hp
  try dsimp +instances only [dft_int, dft_sl, dft_str]
  simp only [true_and, and_true, eq_self_iff_true, implies_true, reduceCtorEq, false_implies, true_implies, decide_eq_true_eq, decide_eq_false_iff_not, beq_self_eq_true, Bool.not_eq_true', ne_eq, Decidable.not_not, List.nil_append, List.length_singleton, List.length_cons, List.length_nil, Nat.zero_add, Nat.add_zero, Nat.mul_one, and_self, beq_iff_eq, Bool.not_true, Bool.not_false, Bool.not_eq_false', Bool.cond_false_right, Bool.and_eq_true, imp_self, Bool.not_eq_true, Bool.cond_true_left, Bool.or_eq_true]
theorem h26 : c_law03_same.ok Tryd.prog GL 26 := con_ok (H := {}) (mkEnv_ok (gl := GL) (l := [(37, conSem c_r03_Compare)]) (q := []) (d := []) _ tyOk (by kernel_rfl) ⟨h37.call, trivial⟩ trivial trivial) (by kernel_rfl) (by kernel_rfl) (Eq.mp e26 k26)

def t15 : Prop :=
  ∀ (x : Unit), True → True → true = true
theorem e15 : t15 = Con.vc c_law03_names GL (mkEnv ty [] [] [] [0]) {} Tryd.f15.ntmps Tryd.f15.results.toList (bodyOf Tryd.f15) := by kernel_rfl
theorem k15 : t15 := by
  unfold t15
  rintro _ hx hp
  rfl
theorem h15 : c_law03_names.ok Tryd.prog GL 15 := con_ok (H := {}) (mkEnv_ok (gl := GL) (l := []) (q := []) (d := []) _ tyOk (by kernel_rfl) trivial trivial trivial) (by kernel_rfl) (by kernel_rfl) (Eq.mp e15 k15)

end Go.Proofs.YtkdffofjnjamlaaDoor
end
section
/- Contracts. -/
namespace Go.Proofs.YtkdffofjnjamlaaDoor
open Go Go.Vc Go.Pl Go.Proofs
def c_law03_own : Con := { args := [.own 3 I64, .dat (.sl I64), .dat (.sl I64)], res := [.dat .bool], pre := fun x => lenI x.1 ≤ 1000, post := fun x y => x.1 = x.2.2.1 → x.2.1 = x.2.2.1 → y.1 = true }
def c_law03_OidParses : Con := { args := [.dat .str], res := [.dat .bool], pre := fun x => ABulk [.dat .str] x ≤ 1048576, post := fun _ y => y.1 = true }
def c_law03_OidOnce : Con := { args := [.dat BY, .dat .str], res := [.dat .bool], pre := fun x => ABulk [.dat BY, .dat .str] x ≤ 1048576, post := fun _ y => y.1 = true }
def c_law03_OidBack : Con := { args := [.dat (.sl I64)], res := [.dat .bool], pre := fun x => ABulk [.dat (.sl I64)] x ≤ 1048576, post := fun _ y => y.1 = true }

end Go.Proofs.YtkdffofjnjamlaaDoor
end
section
/- Walks. -/
namespace Go.Proofs.YtkdffofjnjamlaaDoor
open Go Go.Vc Go.Pl Go.Proofs
set_option linter.unusedVariables false
set_option linter.unusedSimpArgs false
def t18 : Prop :=
  ∀ (x : List Int × List Int × List Int × Unit),
    Kd.wf (Kd.sl (Kd.int IntKind.i64)) x.fst ∧ Kd.wf (Kd.sl (Kd.int IntKind.i64)) x.snd.fst ∧ Kd.wf (Kd.sl (Kd.int IntKind.i64)) x.snd.snd.fst ∧ True →
      lenI x.fst ≤ (1000 : Nat) →
        True ∧
          (∀ (y : Bool × Unit),
              Kd.wf Kd.bool y.fst ∧ True →
                (x.fst = x.snd.snd.fst → y.fst = true) →
                  ((!y.fst) = true → x.fst = x.snd.snd.fst → x.snd.fst = x.snd.snd.fst → false = true) ∧
                    ((!y.fst) = false →
                      ∃ (I : Int × Unit → List Int × Unit → Prop),
                        ∃ (μ : Int × Unit → List Int × Unit → Nat),
                          (Value.bool false = Value.bool false ∧ Value.bool false = Value.bool false ∧ x.snd.fst = x.snd.fst ∧ x.snd.snd.fst = x.snd.snd.fst ∧ I ((0 : Int), ()) (x.fst, ())) ∧
                            ∀ (y : Int × Unit) (z : List Int × Unit),
                              Kd.wf (Kd.int IntKind.i64) y.fst ∧ True →
                                Kd.wf (Kd.sl (Kd.int IntKind.i64)) z.fst ∧ True →
                                  I y z →
                                    (decide (y.fst < (↑(List.length z.fst) : Int)) = true →
                                        ((0 : Int) ≤ y.fst ∧ y.fst < (↑(List.length z.fst) : Int)) ∧
                                          Value.bool false = Value.bool false ∧
                                            Value.bool false = Value.bool false ∧
                                              x.snd.fst = x.snd.fst ∧
                                                x.snd.snd.fst = x.snd.snd.fst ∧
                                                  I (IntKind.wrap IntKind.i64 (y.fst + (1 : Int)), ()) (List.set z.fst (Int.toNat y.fst) (-5 : Int), ()) ∧
                                                    μ (IntKind.wrap IntKind.i64 (y.fst + (1 : Int)), ()) (List.set z.fst (Int.toNat y.fst) (-5 : Int), ()) < μ y z) ∧
                                      (decide (y.fst < (↑(List.length z.fst) : Int)) = false →
                                        (0 : Nat) < (1 : Nat) ∧
                                          (List.length z.fst + (2 : Nat)) * (8 : Nat) ≤ (140737488355328 : Nat) ∧
                                            List.length z.fst + (2 : Nat) ≤ (9223372036854775807 : Nat) ∧
                                              True ∧
                                                (∀ (y : Bool × Unit),
                                                    Kd.wf Kd.bool y.fst ∧ True → (x.snd.fst = x.snd.snd.fst → y.fst = true) → x.fst = x.snd.snd.fst → x.snd.fst = x.snd.snd.fst → y.fst = true) ∧
                                                  True))) ∧
            True
theorem e18 : t18 = Con.vc c_law03_own GL (mkEnv ty [(26, conSem c_law03_same)] [] [] [0, 1, 2, 6, 7, 11, 15]) {} Tryd.f18.ntmps Tryd.f18.results.toList (bodyOf Tryd.f18) := by kernel_rfl
theorem k18 : t18 := by
  unfold t18
  rintro ⟨a, b, c, _⟩ hx hp
  have hp : lenI a ≤ 1000 := hp
  rw [lenI] at hp
  try dsimp +instances only [dft_int, dft_sl, dft_str]
  simp only [true_and, and_true, eq_self_iff_true, implies_true, reduceCtorEq, false_implies, true_implies, decide_eq_true_eq, decide_eq_false_iff_not, beq_self_eq_true, Bool.not_eq_true', ne_eq, Decidable.not_not, List.nil_append, List.length_singleton, List.length_cons, List.length_nil, Nat.zero_add, Nat.add_zero, Nat.mul_one, and_self, beq_iff_eq, Bool.not_true, Bool.not_false, Bool.not_eq_false', Bool.cond_false_right, Bool.and_eq_true, imp_self, Bool.not_eq_true, Bool.cond_true_left, Bool.or_eq_true]
  rintro ⟨q, _⟩ _ hq
  simp only at hq ⊢
  refine ⟨fun h e _ => (by rw [hq e] at h; cases h), fun _ => ?_⟩
  refine ⟨fun y z => 0 ≤ y.1 ∧ z.1.length = a.length, fun y z => z.1.length - y.1.toNat, ⟨by omega, rfl⟩, ?_⟩
  rintro ⟨i, _⟩ ⟨z, _⟩ _ _ ⟨h0, h1⟩
  simp only at h0 h1 ⊢
  refine ⟨fun hlt => ?_, fun _ => ⟨by decide, by omega, by omega, fun y _ hy _ e2 => hy e2⟩⟩
  have hw : IntKind.wrap .i64 (i + 1) = i + 1 := wrapK _ (by omega) (by omega)
  rw [hw]
  exact ⟨⟨h0, hlt⟩, ⟨by omega, by simp; exact h1⟩, by simp; omega⟩
theorem h18 : c_law03_own.ok Tryd.prog GL 18 := con_ok (H := {}) (mkEnv_ok (gl := GL) (l := [(26, conSem c_law03_same)]) (q := []) (d := []) _ tyOk (by kernel_rfl) ⟨h26.call, trivial⟩ trivial trivial) (by kernel_rfl) (by kernel_rfl) (Eq.mp e18 k18)

def t4 : Prop :=
  ∀ (x : List Int × Unit),
    Kd.wf Kd.str x.fst ∧ True →
      ABulk [AK.dat Kd.str] x ≤ (1048576 : Nat) →
        List.length x.fst ≤ (1000000000 : Nat) ∧
          (∀ (y : List Int × Int × Unit),
              Kd.wf (Kd.sl (Kd.int IntKind.i64)) y.fst ∧ Kd.wf (Kd.int IntKind.i64) y.snd.fst ∧ True →
                parB x.fst y.fst y.snd.fst = true →
                  List.length x.fst ≤ (1000000000 : Nat) ∧
                    (∀ (y_1 : List Int × Int × Unit),
                        Kd.wf (Kd.sl (Kd.int IntKind.i64)) y_1.fst ∧ Kd.wf (Kd.int IntKind.i64) y_1.snd.fst ∧ True →
                          parB x.fst y_1.fst y_1.snd.fst = true →
                            List.length x.fst ≤ (1000000000 : Nat) ∧
                              (∀ (y_2 : List Int × Int × Unit),
                                  Kd.wf (Kd.sl (Kd.int IntKind.i64)) y_2.fst ∧ Kd.wf (Kd.int IntKind.i64) y_2.snd.fst ∧ True →
                                    parB x.fst y_2.fst y_2.snd.fst = true →
                                      (decide (y.snd.fst = y_2.snd.fst) = true → True) ∧
                                        (decide (y.snd.fst = y_2.snd.fst) = true → True) ∧
                                          (decide (y.snd.fst = y_2.snd.fst) = true → True) ∧
                                            (decide (y.snd.fst = y_2.snd.fst) = true →
                                                (decide (y.snd.fst = y_2.snd.fst) == true) = true ∧
                                                  (decide (y.snd.fst = y_2.snd.fst) == true) = true ∧
                                                    (decide (y.snd.fst = y_2.snd.fst) == true) = true ∧
                                                      lenI y.fst ≤ (1000 : Nat) ∧
                                                        (∀ (y_3 : Bool × Unit),
                                                            Kd.wf Kd.bool y_3.fst ∧ True →
                                                              (y.fst = y_2.fst → y_1.fst = y_2.fst → y_3.fst = true) →
                                                                (y_3.fst = true → True ∧ (∀ (y : Bool × Unit), Kd.wf Kd.bool y.fst ∧ True → y.fst = true → y.fst = true) ∧ True) ∧
                                                                  (y_3.fst = !true → false = true)) ∧
                                                          True) ∧
                                              (decide (y.snd.fst = y_2.snd.fst) = !true → false = true)) ∧
                                True) ∧
                      True) ∧
            True
theorem e4 : t4 = Con.vc c_law03_OidParses GL (mkEnv ty [(16, conSem c_oid_Parse), (17, conSem c_r03_Parse), (18, conSem c_law03_own), (15, conSem c_law03_names)] [] [] [0, 2, 3, 4, 5, 7, 8]) {} Tryd.f4.ntmps Tryd.f4.results.toList (bodyOf Tryd.f4) := by kernel_rfl
theorem k4 : t4 := by
  unfold t4
  rintro ⟨s, _⟩ hx hp
  have hp : s.length + 1 + 0 ≤ 1048576 := hp
  try dsimp +instances only [dft_int, dft_sl, dft_str]
  simp only [true_and, and_true, eq_self_iff_true, implies_true, reduceCtorEq, false_implies, true_implies, decide_eq_true_eq, decide_eq_false_iff_not, beq_self_eq_true, Bool.not_eq_true', ne_eq, Decidable.not_not, List.nil_append, List.length_singleton, List.length_cons, List.length_nil, Nat.zero_add, Nat.add_zero, Nat.mul_one, and_self, beq_iff_eq, Bool.not_true, Bool.not_false, Bool.not_eq_false', Bool.cond_false_right, Bool.and_eq_true, imp_self, Bool.not_eq_true, Bool.cond_true_left, Bool.or_eq_true]
  refine ⟨by omega, ?_⟩
  rintro ⟨x, e, _⟩ _ h1
  refine ⟨by omega, ?_⟩
  rintro ⟨y, f, _⟩ _ h2
  refine ⟨by omega, ?_⟩
  rintro ⟨w, g, _⟩ _ h3
  simp only at h1 h2 h3 ⊢
  obtain ⟨rfl, rfl⟩ := par_det h1 h3
  obtain ⟨rfl, rfl⟩ := par_det h2 h3
  refine ⟨fun _ => ⟨rfl, rfl, rfl, ?_, ?_⟩, fun h => h rfl⟩
  · have := par_len h1
    rw [lenI]; omega
  · rintro ⟨q, _⟩ _ hq hf
    have hq : q = true := hq rfl rfl
    simp only at hf
    rw [hq] at hf
    cases hf
theorem h4 : c_law03_OidParses.ok Tryd.prog GL 4 := con_ok (H := {}) (mkEnv_ok (gl := GL) (l := [(16, conSem c_oid_Parse), (17, conSem c_r03_Parse), (18, conSem c_law03_own), (15, conSem c_law03_names)]) (q := []) (d := []) _ tyOk (by kernel_rfl) ⟨h16.call, h17.call, h18.call, h15.call, trivial⟩ trivial trivial) (by kernel_rfl) (by kernel_rfl) (Eq.mp e4 k4)

def t5 : Prop :=
  ∀ (x : List Int × List Int × Unit),
    Kd.wf (Kd.sl (Kd.int IntKind.u8)) x.fst ∧ Kd.wf Kd.str x.snd.fst ∧ True →
      ABulk [AK.dat (Kd.sl (Kd.int IntKind.u8)), AK.dat Kd.str] x ≤ (1048576 : Nat) →
        True ∧
          (∀ (y : List Int × Int × Unit),
              Kd.wf (Kd.sl (Kd.int IntKind.i64)) y.fst ∧ Kd.wf (Kd.int IntKind.i64) y.snd.fst ∧ True →
                (y.fst, y.snd.fst) = DecD x.fst →
                  (decide (y.snd.fst = (0 : Int)) = true →
                      True ∧
                        (∀ (y_1 : List Int × Int × Unit),
                            Kd.wf (Kd.sl (Kd.int IntKind.u8)) y_1.fst ∧ Kd.wf (Kd.int IntKind.i64) y_1.snd.fst ∧ True →
                              (y_1.fst, y_1.snd.fst) = EncO y.fst →
                                (decide (y_1.snd.fst ≠ (0 : Int)) = false → True) ∧
                                  (decide (y_1.snd.fst ≠ (0 : Int)) = false → (decide (y_1.snd.fst ≠ (0 : Int)) == false) = true ∧ True) ∧
                                    (decide (y_1.snd.fst ≠ (0 : Int)) = false → True) ∧
                                      (decide (y_1.snd.fst ≠ (0 : Int)) = false → (decide (y_1.snd.fst ≠ (0 : Int)) == false) = true ∧ True) ∧
                                        (decide (y_1.snd.fst ≠ (0 : Int)) = false → (decide (y_1.snd.fst ≠ (0 : Int)) == false) = true ∧ (decide (y_1.snd.fst ≠ (0 : Int)) == false) = true ∧ True) ∧
                                          (decide (y_1.snd.fst ≠ (0 : Int)) = false → (decide (y_1.snd.fst ≠ (0 : Int)) == false) = true) ∧
                                            ((bif decide (y_1.snd.fst ≠ (0 : Int)) then true else decide (y_1.fst ≠ x.fst)) = false → True) ∧
                                              ((bif decide (y_1.snd.fst ≠ (0 : Int)) then true else decide (y_1.fst ≠ x.fst)) = false →
                                                  ((bif decide (y_1.snd.fst ≠ (0 : Int)) then true else decide (y_1.fst ≠ x.fst)) == false) = true ∧
                                                    True ∧
                                                      (∀ (y_2 : Bool × Unit),
                                                          Kd.wf Kd.bool y_2.fst ∧ True →
                                                            y_2.fst = mayO y.fst →
                                                              ((!y_2.fst) = true → false = true) ∧
                                                                ((!y_2.fst) = false →
                                                                  List.length x.snd.fst ≤ (1000000000 : Nat) ∧
                                                                    (∀ (y : List Int × Int × Unit),
                                                                        Kd.wf (Kd.sl (Kd.int IntKind.i64)) y.fst ∧ Kd.wf (Kd.int IntKind.i64) y.snd.fst ∧ True →
                                                                          parB x.snd.fst y.fst y.snd.fst = true →
                                                                            (decide (y.snd.fst = (0 : Int)) = true →
                                                                                True ∧
                                                                                  (∀ (y_3 : List Int × Int × Unit),
                                                                                      Kd.wf Kd.str y_3.fst ∧ Kd.wf (Kd.int IntKind.i64) y_3.snd.fst ∧ True →
                                                                                        (y_3.fst, y_3.snd.fst) = TxtO y.fst →
                                                                                          (decide (y_3.snd.fst ≠ (0 : Int)) = false → True) ∧
                                                                                            (decide (y_3.snd.fst ≠ (0 : Int)) = false → True) ∧
                                                                                              (decide (y_3.snd.fst ≠ (0 : Int)) = false →
                                                                                                  (decide (y_3.snd.fst ≠ (0 : Int)) == false) = true ∧
                                                                                                    (decide (y_3.snd.fst ≠ (0 : Int)) == false) = true ∧ True) ∧
                                                                                                (decide (y_3.snd.fst ≠ (0 : Int)) = false → (decide (y_3.snd.fst ≠ (0 : Int)) == false) = true) ∧
                                                                                                  ((bif decide (y_3.snd.fst ≠ (0 : Int)) then true else decide (y_3.fst ≠ x.snd.fst)) = false → True) ∧
                                                                                                    ((bif decide (y_3.snd.fst ≠ (0 : Int)) then true else decide (y_3.fst ≠ x.snd.fst)) = false →
                                                                                                        ((bif decide (y_3.snd.fst ≠ (0 : Int)) then true else decide (y_3.fst ≠ x.snd.fst)) == false) =
                                                                                                            true ∧
                                                                                                          True ∧
                                                                                                            (∀ (y_4 : Bool × Unit),
                                                                                                                Kd.wf Kd.bool y_4.fst ∧ True →
                                                                                                                  y_4.fst = mayO y.fst →
                                                                                                                    ((!y_4.fst) = true → false = true) ∧
                                                                                                                      ((!y_4.fst) = false →
                                                                                                                        True ∧
                                                                                                                          (∀ (y : Bool × Unit),
                                                                                                                              Kd.wf Kd.bool y.fst ∧ True →
                                                                                                                                y.fst = mayO [(1 : Int), (2 : Int)] → y.fst = true) ∧
                                                                                                                            True)) ∧
                                                                                                              True) ∧
                                                                                                      ((bif decide (y_3.snd.fst ≠ (0 : Int)) then true else decide (y_3.fst ≠ x.snd.fst)) = !false →
                                                                                                        false = true)) ∧
                                                                                    True) ∧
                                                                              (decide (y.snd.fst = (0 : Int)) = false →
                                                                                True ∧ (∀ (y : Bool × Unit), Kd.wf Kd.bool y.fst ∧ True → y.fst = mayO [(1 : Int), (2 : Int)] → y.fst = true) ∧ True)) ∧
                                                                      True)) ∧
                                                        True) ∧
                                                ((bif decide (y_1.snd.fst ≠ (0 : Int)) then true else decide (y_1.fst ≠ x.fst)) = !false → false = true)) ∧
                          True) ∧
                    (decide (y.snd.fst = (0 : Int)) = false →
                      List.length x.snd.fst ≤ (1000000000 : Nat) ∧
                        (∀ (y : List Int × Int × Unit),
                            Kd.wf (Kd.sl (Kd.int IntKind.i64)) y.fst ∧ Kd.wf (Kd.int IntKind.i64) y.snd.fst ∧ True →
                              parB x.snd.fst y.fst y.snd.fst = true →
                                (decide (y.snd.fst = (0 : Int)) = true →
                                    True ∧
                                      (∀ (y_1 : List Int × Int × Unit),
                                          Kd.wf Kd.str y_1.fst ∧ Kd.wf (Kd.int IntKind.i64) y_1.snd.fst ∧ True →
                                            (y_1.fst, y_1.snd.fst) = TxtO y.fst →
                                              (decide (y_1.snd.fst ≠ (0 : Int)) = false → True) ∧
                                                (decide (y_1.snd.fst ≠ (0 : Int)) = false → True) ∧
                                                  (decide (y_1.snd.fst ≠ (0 : Int)) = false →
                                                      (decide (y_1.snd.fst ≠ (0 : Int)) == false) = true ∧ (decide (y_1.snd.fst ≠ (0 : Int)) == false) = true ∧ True) ∧
                                                    (decide (y_1.snd.fst ≠ (0 : Int)) = false → (decide (y_1.snd.fst ≠ (0 : Int)) == false) = true) ∧
                                                      ((bif decide (y_1.snd.fst ≠ (0 : Int)) then true else decide (y_1.fst ≠ x.snd.fst)) = false → True) ∧
                                                        ((bif decide (y_1.snd.fst ≠ (0 : Int)) then true else decide (y_1.fst ≠ x.snd.fst)) = false →
                                                            ((bif decide (y_1.snd.fst ≠ (0 : Int)) then true else decide (y_1.fst ≠ x.snd.fst)) == false) = true ∧
                                                              True ∧
                                                                (∀ (y_2 : Bool × Unit),
                                                                    Kd.wf Kd.bool y_2.fst ∧ True →
                                                                      y_2.fst = mayO y.fst →
                                                                        ((!y_2.fst) = true → false = true) ∧
                                                                          ((!y_2.fst) = false →
                                                                            True ∧ (∀ (y : Bool × Unit), Kd.wf Kd.bool y.fst ∧ True → y.fst = mayO [(1 : Int), (2 : Int)] → y.fst = true) ∧ True)) ∧
                                                                  True) ∧
                                                          ((bif decide (y_1.snd.fst ≠ (0 : Int)) then true else decide (y_1.fst ≠ x.snd.fst)) = !false → false = true)) ∧
                                        True) ∧
                                  (decide (y.snd.fst = (0 : Int)) = false → True ∧ (∀ (y : Bool × Unit), Kd.wf Kd.bool y.fst ∧ True → y.fst = mayO [(1 : Int), (2 : Int)] → y.fst = true) ∧ True)) ∧
                          True)) ∧
            True
theorem e5 : t5 = Con.vc c_law03_OidOnce GL (mkEnv ty [(19, conSem c_oid_Decode), (8, conSem c_oid_Encode), (12, conSem c_oid_May), (16, conSem c_oid_Parse), (10, conSem c_oid_Text)] [] [] [0, 1, 4, 5, 6, 7, 8, 9, 10, 11, 18, 37, 44, 61]) {} Tryd.f5.ntmps Tryd.f5.results.toList (bodyOf Tryd.f5) := by kernel_rfl
theorem k5 : t5 := by
  unfold t5
  rintro ⟨b, s, _⟩ hx hp
  have hs : s.length ≤ 1000000000 := by
    have hp : Kd.bulk (.sl (.int .u8)) b + (s.length + 1 + 0) ≤ 1048576 := hp
    omega
  have hb : Bys b := sl_bys hx.1
  try dsimp +instances only [dft_int, dft_sl, dft_str]
  simp only [true_and, and_true, eq_self_iff_true, implies_true, reduceCtorEq, false_implies, true_implies, decide_eq_true_eq, decide_eq_false_iff_not, beq_self_eq_true, Bool.not_eq_true', ne_eq, Decidable.not_not, List.nil_append, List.length_singleton, List.length_cons, List.length_nil, Nat.zero_add, Nat.add_zero, Nat.mul_one, and_self, beq_iff_eq, Bool.not_true, Bool.not_false, Bool.not_eq_false', Bool.cond_false_right, Bool.and_eq_true, imp_self, Bool.not_eq_true, Bool.cond_true_left, Bool.or_eq_true]
  simp only [all_bool, may_12]
  have tail : ∀ y : List Int × Int × Unit, parB s y.1 y.2.1 = true → y.2.1 = 0 → mayO y.1 = true ∧ TxtO y.1 = (s, 0) := fun ⟨y, f, _⟩ h hf => by
    simp only at h hf ⊢
    subst hf
    obtain ⟨h1, h2⟩ := par_ok h
    exact ⟨h1, by rw [TxtO, if_pos h1, h2]⟩
  have key : ∀ y : List Int × Int × Unit, parB s y.1 y.2.1 = true → y.2.1 = 0 → ∀ z : List Int × Int × Unit, (z.1, z.2.1) = TxtO y.1 → z.1 = s ∧ z.2.1 = 0 ∧ mayO y.1 = true := fun y h hf z hz => by
    obtain ⟨h1, h2⟩ := tail y h hf
    rw [h2] at hz
    exact ⟨(Prod.mk.inj hz).1, (Prod.mk.inj hz).2, h1⟩
  rintro ⟨x, e, _⟩ _ h1
  simp only at h1 ⊢
  refine ⟨fun he => ?_, fun _ => ⟨hs, ?_⟩⟩
  · subst he
    obtain ⟨g1, g2⟩ := enc_dec hb h1.symm
    rintro ⟨c, f, _⟩ _ h2
    simp only at h2 ⊢
    rw [EncO, if_pos g1, g2] at h2
    obtain ⟨rfl, rfl⟩ := Prod.mk.inj h2
    refine ⟨fun hh => ⟨hh, fun hm => (by rw [g1] at hm; cases hm), fun _ => ⟨hs, ?_⟩⟩, fun hh => by rcases hh with hh | hh <;> exact hh rfl⟩
    intro y _ hy
    refine ⟨fun hf z _ hz => ?_, fun _ => by trivial⟩
    obtain ⟨k1, k2, k3⟩ := key y hy hf z hz
    exact ⟨fun hh => ⟨hh, fun hm => (by rw [k3] at hm; cases hm), fun _ => by trivial⟩, fun hh => by rcases hh with hh | hh; exact hh k2; exact hh k1⟩
  · intro y _ hy
    refine ⟨fun hf z _ hz => ?_, fun _ => by trivial⟩
    obtain ⟨k1, k2, k3⟩ := key y hy hf z hz
    exact ⟨fun hh => ⟨hh, fun hm => (by rw [k3] at hm; cases hm), fun _ => by trivial⟩, fun hh => by rcases hh with hh | hh; exact hh k2; exact hh k1⟩
theorem h5 : c_law03_OidOnce.ok Tryd.prog GL 5 := con_ok (H := {}) (mkEnv_ok (gl := GL) (l := [(19, conSem c_oid_Decode), (8, conSem c_oid_Encode), (12, conSem c_oid_May), (16, conSem c_oid_Parse), (10, conSem c_oid_Text)]) (q := []) (d := []) _ tyOk (by kernel_rfl) ⟨h19.call, h8.call, h12.call, h16.call, h10.call, trivial⟩ trivial trivial) (by kernel_rfl) (by kernel_rfl) (Eq.mp e5 k5)

def t6 : Prop :=
  ∀ (x : List Int × Unit),
    Kd.wf (Kd.sl (Kd.int IntKind.i64)) x.fst ∧ True →
      ABulk [AK.dat (Kd.sl (Kd.int IntKind.i64))] x ≤ (1048576 : Nat) →
        True ∧
          (∀ (y : List Int × Int × Unit),
              Kd.wf (Kd.sl (Kd.int IntKind.u8)) y.fst ∧ Kd.wf (Kd.int IntKind.i64) y.snd.fst ∧ True →
                (y.fst, y.snd.fst) = EncO x.fst →
                  True ∧
                    (∀ (y_1 : List Int × Int × Unit),
                        Kd.wf Kd.str y_1.fst ∧ Kd.wf (Kd.int IntKind.i64) y_1.snd.fst ∧ True →
                          (y_1.fst, y_1.snd.fst) = TxtO x.fst →
                            True ∧
                              (∀ (y_2 : Bool × Unit),
                                  Kd.wf Kd.bool y_2.fst ∧ True →
                                    y_2.fst = mayO x.fst →
                                      ((!y_2.fst) = true →
                                          (decide (y.snd.fst = (2 : Int)) = true → True) ∧
                                            (decide (y.snd.fst = (2 : Int)) = true → (decide (y.snd.fst = (2 : Int)) == true) = true ∧ True) ∧
                                              (decide (y.snd.fst = (2 : Int)) = true → (decide (y.snd.fst = (2 : Int)) == true) = true) ∧
                                                ((bif decide (y.snd.fst = (2 : Int)) then decide (y_1.snd.fst = (2 : Int)) else false) = true → True) ∧
                                                  ((bif decide (y.snd.fst = (2 : Int)) then decide (y_1.snd.fst = (2 : Int)) else false) = true →
                                                      ((bif decide (y.snd.fst = (2 : Int)) then decide (y_1.snd.fst = (2 : Int)) else false) == true) = true ∧ True) ∧
                                                    ((bif decide (y.snd.fst = (2 : Int)) then decide (y_1.snd.fst = (2 : Int)) else false) = true →
                                                        ((bif decide (y.snd.fst = (2 : Int)) then decide (y_1.snd.fst = (2 : Int)) else false) == true) = true ∧ True) ∧
                                                      ((bif decide (y.snd.fst = (2 : Int)) then decide (y_1.snd.fst = (2 : Int)) else false) = true →
                                                          ((bif decide (y.snd.fst = (2 : Int)) then decide (y_1.snd.fst = (2 : Int)) else false) == true) = true) ∧
                                                        ((bif bif decide (y.snd.fst = (2 : Int)) then decide (y_1.snd.fst = (2 : Int)) else false then decide ((↑(List.length y.fst) : Int) = (0 : Int))
                                                              else false) =
                                                              true →
                                                            True) ∧
                                                          ((bif bif decide (y.snd.fst = (2 : Int)) then decide (y_1.snd.fst = (2 : Int)) else false then decide ((↑(List.length y.fst) : Int) = (0 : Int))
                                                                else false) =
                                                                true →
                                                              ((bif bif decide (y.snd.fst = (2 : Int)) then decide (y_1.snd.fst = (2 : Int)) else false then
                                                                      decide ((↑(List.length y.fst) : Int) = (0 : Int))
                                                                    else false) ==
                                                                    true) =
                                                                  true ∧
                                                                True) ∧
                                                            ((bif bif decide (y.snd.fst = (2 : Int)) then decide (y_1.snd.fst = (2 : Int)) else false then
                                                                    decide ((↑(List.length y.fst) : Int) = (0 : Int))
                                                                  else false) =
                                                                  true →
                                                                ((bif bif decide (y.snd.fst = (2 : Int)) then decide (y_1.snd.fst = (2 : Int)) else false then
                                                                      decide ((↑(List.length y.fst) : Int) = (0 : Int))
                                                                    else false) ==
                                                                    true) =
                                                                  true) ∧
                                                              ((bif
                                                                        bif bif decide (y.snd.fst = (2 : Int)) then decide (y_1.snd.fst = (2 : Int)) else false then
                                                                          decide ((↑(List.length y.fst) : Int) = (0 : Int))
                                                                        else false then
                                                                      decide (y_1.fst = bs { data := #[] })
                                                                    else false) =
                                                                    true →
                                                                  True ∧ (∀ (y : Bool × Unit), Kd.wf Kd.bool y.fst ∧ True → y.fst = mayO [(1 : Int), (2 : Int)] → y.fst = true) ∧ True) ∧
                                                                ((bif
                                                                        bif bif decide (y.snd.fst = (2 : Int)) then decide (y_1.snd.fst = (2 : Int)) else false then
                                                                          decide ((↑(List.length y.fst) : Int) = (0 : Int))
                                                                        else false then
                                                                      decide (y_1.fst = bs { data := #[] })
                                                                    else false) =
                                                                    !true →
                                                                  false = true)) ∧
                                        ((!y_2.fst) = false →
                                          True ∧
                                            (∀ (y_3 : List Int × Int × Unit),
                                                Kd.wf (Kd.sl (Kd.int IntKind.i64)) y_3.fst ∧ Kd.wf (Kd.int IntKind.i64) y_3.snd.fst ∧ True →
                                                  (y_3.fst, y_3.snd.fst) = DecD y.fst →
                                                    List.length y_1.fst ≤ (1000000000 : Nat) ∧
                                                      (∀ (y_4 : List Int × Int × Unit),
                                                          Kd.wf (Kd.sl (Kd.int IntKind.i64)) y_4.fst ∧ Kd.wf (Kd.int IntKind.i64) y_4.snd.fst ∧ True →
                                                            parB y_1.fst y_4.fst y_4.snd.fst = true →
                                                              (decide (y.snd.fst = (0 : Int)) = true → True) ∧
                                                                (decide (y.snd.fst = (0 : Int)) = true → (decide (y.snd.fst = (0 : Int)) == true) = true ∧ True) ∧
                                                                  (decide (y.snd.fst = (0 : Int)) = true → (decide (y.snd.fst = (0 : Int)) == true) = true) ∧
                                                                    ((bif decide (y.snd.fst = (0 : Int)) then decide (y_1.snd.fst = (0 : Int)) else false) = true → True) ∧
                                                                      ((bif decide (y.snd.fst = (0 : Int)) then decide (y_1.snd.fst = (0 : Int)) else false) = true →
                                                                          ((bif decide (y.snd.fst = (0 : Int)) then decide (y_1.snd.fst = (0 : Int)) else false) == true) = true ∧ True) ∧
                                                                        ((bif decide (y.snd.fst = (0 : Int)) then decide (y_1.snd.fst = (0 : Int)) else false) = true →
                                                                            ((bif decide (y.snd.fst = (0 : Int)) then decide (y_1.snd.fst = (0 : Int)) else false) == true) = true) ∧
                                                                          ((bif bif decide (y.snd.fst = (0 : Int)) then decide (y_1.snd.fst = (0 : Int)) else false then decide (y_3.snd.fst = (0 : Int))
                                                                                else false) =
                                                                                true →
                                                                              True) ∧
                                                                            ((bif bif decide (y.snd.fst = (0 : Int)) then decide (y_1.snd.fst = (0 : Int)) else false then
                                                                                    decide (y_3.snd.fst = (0 : Int))
                                                                                  else false) =
                                                                                  true →
                                                                                ((bif bif decide (y.snd.fst = (0 : Int)) then decide (y_1.snd.fst = (0 : Int)) else false then
                                                                                        decide (y_3.snd.fst = (0 : Int))
                                                                                      else false) ==
                                                                                      true) =
                                                                                    true ∧
                                                                                  True) ∧
                                                                              ((bif bif decide (y.snd.fst = (0 : Int)) then decide (y_1.snd.fst = (0 : Int)) else false then
                                                                                      decide (y_3.snd.fst = (0 : Int))
                                                                                    else false) =
                                                                                    true →
                                                                                  ((bif bif decide (y.snd.fst = (0 : Int)) then decide (y_1.snd.fst = (0 : Int)) else false then
                                                                                        decide (y_3.snd.fst = (0 : Int))
                                                                                      else false) ==
                                                                                      true) =
                                                                                    true) ∧
                                                                                ((bif
                                                                                          bif bif decide (y.snd.fst = (0 : Int)) then decide (y_1.snd.fst = (0 : Int)) else false then
                                                                                            decide (y_3.snd.fst = (0 : Int))
                                                                                          else false then
                                                                                        decide (y_4.snd.fst = (0 : Int))
                                                                                      else false) =
                                                                                      true →
                                                                                    True) ∧
                                                                                  ((bif
                                                                                            bif bif decide (y.snd.fst = (0 : Int)) then decide (y_1.snd.fst = (0 : Int)) else false then
                                                                                              decide (y_3.snd.fst = (0 : Int))
                                                                                            else false then
                                                                                          decide (y_4.snd.fst = (0 : Int))
                                                                                        else false) =
                                                                                        true →
                                                                                      True) ∧
                                                                                    ((bif
                                                                                              bif bif decide (y.snd.fst = (0 : Int)) then decide (y_1.snd.fst = (0 : Int)) else false then
                                                                                                decide (y_3.snd.fst = (0 : Int))
                                                                                              else false then
                                                                                            decide (y_4.snd.fst = (0 : Int))
                                                                                          else false) =
                                                                                          true →
                                                                                        ((bif
                                                                                                  bif bif decide (y.snd.fst = (0 : Int)) then decide (y_1.snd.fst = (0 : Int)) else false then
                                                                                                    decide (y_3.snd.fst = (0 : Int))
                                                                                                  else false then
                                                                                                decide (y_4.snd.fst = (0 : Int))
                                                                                              else false) ==
                                                                                              true) =
                                                                                            true ∧
                                                                                          ((bif
                                                                                                    bif bif decide (y.snd.fst = (0 : Int)) then decide (y_1.snd.fst = (0 : Int)) else false then
                                                                                                      decide (y_3.snd.fst = (0 : Int))
                                                                                                    else false then
                                                                                                  decide (y_4.snd.fst = (0 : Int))
                                                                                                else false) ==
                                                                                                true) =
                                                                                              true ∧
                                                                                            True ∧
                                                                                              (∀ (y : Int × Unit),
                                                                                                  Kd.wf (Kd.int IntKind.i64) y.fst ∧ True →
                                                                                                    y.fst = CmpD y_3.fst x.fst →
                                                                                                      (decide (y.fst = (0 : Int)) = true → True) ∧
                                                                                                        (decide (y.fst = (0 : Int)) = true → True) ∧
                                                                                                          (decide (y.fst = (0 : Int)) = true →
                                                                                                              (decide (y.fst = (0 : Int)) == true) = true ∧
                                                                                                                (decide (y.fst = (0 : Int)) == true) = true ∧
                                                                                                                  True ∧
                                                                                                                    (∀ (y : Int × Unit),
                                                                                                                        Kd.wf (Kd.int IntKind.i64) y.fst ∧ True →
                                                                                                                          y.fst = CmpD y_4.fst x.fst →
                                                                                                                            (decide (y.fst = (0 : Int)) = true → True) ∧
                                                                                                                              (decide (y.fst = (0 : Int)) = true →
                                                                                                                                  (decide (y.fst = (0 : Int)) == true) = true ∧ True) ∧
                                                                                                                                (decide (y.fst = (0 : Int)) = true → True) ∧
                                                                                                                                  (decide (y.fst = (0 : Int)) = true →
                                                                                                                                      (decide (y.fst = (0 : Int)) == true) = true ∧ True) ∧
                                                                                                                                    (decide (y.fst = (0 : Int)) = true →
                                                                                                                                        (decide (y.fst = (0 : Int)) == true) = true ∧
                                                                                                                                          (decide (y.fst = (0 : Int)) == true) = true ∧ True) ∧
                                                                                                                                      (decide (y.fst = (0 : Int)) = true →
                                                                                                                                          (decide (y.fst = (0 : Int)) == true) = true) ∧
                                                                                                                                        ((bif decide (y.fst = (0 : Int)) then
                                                                                                                                                decide
                                                                                                                                                  ((↑(List.length y_3.fst) : Int) =
                                                                                                                                                    (↑(List.length x.fst) : Int))
                                                                                                                                              else false) =
                                                                                                                                              true →
                                                                                                                                            True ∧
                                                                                                                                              (∀ (y : Bool × Unit),
                                                                                                                                                  Kd.wf Kd.bool y.fst ∧ True →
                                                                                                                                                    y.fst = mayO [(1 : Int), (2 : Int)] → y.fst = true) ∧
                                                                                                                                                True) ∧
                                                                                                                                          ((bif decide (y.fst = (0 : Int)) then
                                                                                                                                                decide
                                                                                                                                                  ((↑(List.length y_3.fst) : Int) =
                                                                                                                                                    (↑(List.length x.fst) : Int))
                                                                                                                                              else false) =
                                                                                                                                              !true →
                                                                                                                                            false = true)) ∧
                                                                                                                      True) ∧
                                                                                                            (decide (y.fst = (0 : Int)) = !true → false = true)) ∧
                                                                                                True) ∧
                                                                                      ((bif
                                                                                              bif bif decide (y.snd.fst = (0 : Int)) then decide (y_1.snd.fst = (0 : Int)) else false then
                                                                                                decide (y_3.snd.fst = (0 : Int))
                                                                                              else false then
                                                                                            decide (y_4.snd.fst = (0 : Int))
                                                                                          else false) =
                                                                                          !true →
                                                                                        false = true)) ∧
                                                        True) ∧
                                              True)) ∧
                                True) ∧
                      True) ∧
            True
theorem e6 : t6 = Con.vc c_law03_OidBack GL (mkEnv ty [(8, conSem c_oid_Encode), (10, conSem c_oid_Text), (12, conSem c_oid_May), (19, conSem c_oid_Decode), (16, conSem c_oid_Parse), (20, conSem c_oid_Compare)] [] [] [0, 2, 3, 4, 5, 6, 7, 8, 9, 10, 23]) {} Tryd.f6.ntmps Tryd.f6.results.toList (bodyOf Tryd.f6) := by kernel_rfl
theorem k6 : t6 := by
  unfold t6
  rintro ⟨m, _⟩ hx hp
  try dsimp +instances only [dft_int, dft_sl, dft_str]
  simp only [true_and, and_true, eq_self_iff_true, implies_true, reduceCtorEq, false_implies, true_implies, decide_eq_true_eq, decide_eq_false_iff_not, beq_self_eq_true, Bool.not_eq_true', ne_eq, Decidable.not_not, List.nil_append, List.length_singleton, List.length_cons, List.length_nil, Nat.zero_add, Nat.add_zero, Nat.mul_one, and_self, beq_iff_eq, Bool.not_true, Bool.not_false, Bool.not_eq_false', Bool.cond_false_right, Bool.and_eq_true, imp_self, Bool.not_eq_true, Bool.cond_true_left, Bool.or_eq_true]
  simp only [all_bool, may_12]
  rintro ⟨b, e, _⟩ _ h1 ⟨s, f, _⟩ _ h2
  simp only at h1 h2 ⊢
  rw [bs_nil]
  refine ⟨fun hm => ?_, fun hm => ?_⟩
  · rw [EncO, if_neg (by rw [hm]; decide)] at h1
    rw [TxtO, if_neg (by rw [hm]; decide)] at h2
    obtain ⟨rfl, rfl⟩ := Prod.mk.inj h1
    obtain ⟨rfl, rfl⟩ := Prod.mk.inj h2
    exact ⟨fun _ => by trivial, fun h => by simp at h⟩
  · rw [EncO, if_pos hm] at h1
    rw [TxtO, if_pos hm] at h2
    obtain ⟨rfl, rfl⟩ := Prod.mk.inj h1
    obtain ⟨rfl, rfl⟩ := Prod.mk.inj h2
    rintro ⟨x, g, _⟩ _ h3
    simp only at h3 ⊢
    rw [dec_enc hm] at h3
    obtain ⟨rfl, rfl⟩ := Prod.mk.inj h3
    refine ⟨by have := txt_len hm; omega, ?_⟩
    rintro ⟨y, h, _⟩ _ h4
    simp only at h4 ⊢
    obtain ⟨rfl, rfl⟩ := par_of hm h4
    have hc : CmpD y y = 0 := cmp_zero.2 rfl
    simp [hc]
theorem h6 : c_law03_OidBack.ok Tryd.prog GL 6 := con_ok (H := {}) (mkEnv_ok (gl := GL) (l := [(8, conSem c_oid_Encode), (10, conSem c_oid_Text), (12, conSem c_oid_May), (19, conSem c_oid_Decode), (16, conSem c_oid_Parse), (20, conSem c_oid_Compare)]) (q := []) (d := []) _ tyOk (by kernel_rfl) ⟨h8.call, h10.call, h12.call, h19.call, h16.call, h20.call, trivial⟩ trivial trivial) (by kernel_rfl) (by kernel_rfl) (Eq.mp e6 k6)

end Go.Proofs.YtkdffofjnjamlaaDoor
end
section
/- Contracts. -/
namespace Go.Proofs.YtkdffofjnjamlaaDoor
open Go Go.Vc Go.Pl Go.Proofs
set_option maxRecDepth 100000 in
theorem glOk {w : World} (hL : laidMetH Tryd.prog [("math/bits.deBruijn32tab", Rows.laid_math_bits_deBruijn32tab), ("math/bits.deBruijn64tab", Rows.laid_math_bits_deBruijn64tab), ("internal/strconv.uint64pow10", Rows.laid_internal_strconv_uint64pow10), ("unicode/utf8.acceptRanges", Rows.laid_unicode_utf8_acceptRanges), ("strconv.ErrRange", Rows.laid_strconv_ErrRange), ("strconv.ErrSyntax", Rows.laid_strconv_ErrSyntax), ("unicode/utf8.first", Rows.laid_unicode_utf8_first)] w) (hS : w.ShapedOpen Tryd.prog) : GlOk GL w (fun _ => False) := by
  have hL : laidMet Tryd.prog [("math/bits.deBruijn32tab", Rows.laid_math_bits_deBruijn32tab), ("math/bits.deBruijn64tab", Rows.laid_math_bits_deBruijn64tab), ("internal/strconv.uint64pow10", Rows.laid_internal_strconv_uint64pow10), ("unicode/utf8.acceptRanges", Rows.laid_unicode_utf8_acceptRanges), ("strconv.ErrRange", Rows.laid_strconv_ErrRange), ("strconv.ErrSyntax", Rows.laid_strconv_ErrSyntax), ("unicode/utf8.first", Rows.laid_unicode_utf8_first)] w := hL
  have h0 := Lib.laidMet.reads hL (n := "internal/strconv.uint64pow10") (d := Rows.laid_internal_strconv_uint64pow10) (by simp)
  have h1 := Lib.laidMet.reads hL (n := "strconv.ErrSyntax") (d := Rows.laid_strconv_ErrSyntax) (by simp)
  have h2 := Lib.laidMet.reads hL (n := "strconv.ErrRange") (d := Rows.laid_strconv_ErrRange) (by simp)
  obtain ⟨m, hm⟩ := Tryd.laysM219.s1_3 w hS
  have hm : w.cell? ⟨3, 0, none⟩ = some (.int .i64 m) := hm
  have k0 := gl_raw (P := Tryd.prog) (w := w) (g := 2) (t := 101) (e := 86) (n := 20) (k := .u64) (zs := Lib.pow10Tab) (by kernel_rfl) (by kernel_rfl) (by kernel_rfl) (by kernel_rfl) (by kernel_rfl) (by kernel_rfl) (of_decide_eq_true (by kernel_rfl)) (by kernel_rfl) h0
  obtain ⟨ms, hi⟩ := ifcB_eq (P := Tryd.prog) (t := 55) (by kernel_rfl)
  have k1 := gl_ifc (P := Tryd.prog) (w := w) (g := 0) (t := 55) (by kernel_rfl) (by kernel_rfl) hi h1
  have k2 := gl_ifc (P := Tryd.prog) (w := w) (g := 1) (t := 55) (by kernel_rfl) (by kernel_rfl) hi h2
  intro g v hg
  rcases gl_cons hg with ⟨rfl, rfl⟩ | hg
  · exact k0
  rcases gl_cons hg with ⟨rfl, rfl⟩ | hg
  · exact k1
  rcases gl_cons hg with ⟨rfl, rfl⟩ | hg
  · exact k2
  obtain ⟨rfl, rfl⟩ := gl_one hg
  exact ⟨cell_lt hm, id, m, hm⟩

end Go.Proofs.YtkdffofjnjamlaaDoor
end
section
/- Walks. -/
namespace Go.Proofs.YtkdffofjnjamlaaDoor
open Go Go.Vc Go.Pl Go.Proofs
end Go.Proofs.YtkdffofjnjamlaaDoor
end
