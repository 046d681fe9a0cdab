/- Walks. -/
import Derived.Test.YtpkhpjohlfhldaaDoorZW
set_option linter.unusedVariables false
set_option linter.unusedSimpArgs false
namespace Go.Proofs.YtpkhpjohlfhldaaDoor
open Go Go.Vc Go.Proofs
set_option linter.unusedVariables false
set_option linter.unusedSimpArgs false
noncomputable def i25 : CallSem → CallSem := vcSeq (mkEnv ty [(26, conSem c26)] [] [] [0, 1, 3, 4, 8, 14, 31]) {joins := [5]} Tryd.f25.ntmps Tryd.f25.results.toList (bodyOf Tryd.f25)
theorem i25_ok : SeqOk Tryd.prog GL 25 i25 := seq_ok {joins := [5]} (mkEnv_ok (gl := GL) (l := [(26, conSem c26)]) (q := []) (d := []) _ tyOk (by kernel_rfl) ⟨h26.call, trivial⟩ trivial trivial) (by kernel_rfl) (by kernel_rfl)

noncomputable def i13 : CallSem := vcFn (mkEnv ty [] [] [] [0, 1, 2]) {} Tryd.f13.ntmps Tryd.f13.results.toList (bodyOf Tryd.f13)
theorem i13_ok : CallOk Tryd.prog GL 13 i13 := inl_ok {} (mkEnv_ok (gl := GL) (l := []) (q := []) (d := []) _ tyOk (by kernel_rfl) trivial trivial trivial) (by kernel_rfl) (by kernel_rfl)

def t15 : Prop :=
  ∀ (x : List Int × Unit),
    Kd.wf Kd.str x.fst ∧ True →
      List.length x.fst ≤ (100000000 : Nat) →
        (1 : Nat) ≤ (65536 : Nat) ∧
          List.length [SV.dat Kd.str x.fst] ≤ (65536 : Nat) ∧
            ∃ (I : Int × Unit → Unit × (List Int × Unit) × List Int × Unit → Prop),
              ∃ (μ : Int × Unit → Unit × (List Int × Unit) × List Int × Unit → Nat),
                (bs { data := #[] } = bs { data := #[] } ∧ x.fst = x.fst ∧ I ((0 : Int), ()) ((), (x.fst, ()), [], ())) ∧
                  ∀ (y : Int × Unit) (z : Unit × (List Int × Unit) × List Int × Unit),
                    Kd.wf (Kd.int IntKind.i64) y.fst ∧ True →
                      True ∧ (Kd.wf Kd.str z.snd.fst.fst ∧ True) ∧ Kd.wf (Kd.sl (Kd.int IntKind.u8)) z.snd.snd.fst ∧ True →
                        I y z →
                          (decide (y.fst < (↑(List.length z.snd.fst.fst) : Int)) = true →
                              ((0 : Int) ≤ y.fst ∧ y.fst ≤ (↑(List.length z.snd.fst.fst) : Int)) ∧
                                True ∧
                                  (∀ (y_1 : Int × Unit),
                                      Kd.wf (Kd.int IntKind.i64) y_1.fst ∧ True →
                                        y_1.fst = idxB (List.drop (Int.toNat y.fst) z.snd.fst.fst) (32 : Int) →
                                          ∃ (J : Int × Unit → Unit × Unit × Unit → Prop),
                                            ((decide (y_1.fst < (0 : Int)) = true →
                                                  Value.bool true = Value.bool true ∧
                                                    y.fst = y.fst ∧
                                                      z.snd.fst.fst = z.snd.fst.fst ∧
                                                        z.snd.snd.fst = z.snd.snd.fst ∧
                                                          bs { data := #[] } = bs { data := #[] } ∧
                                                            x.fst = x.fst ∧ J (IntKind.wrap IntKind.i64 ((↑(List.length z.snd.fst.fst) : Int) - y.fst), ()) ((), (), ())) ∧
                                                (decide (y_1.fst < (0 : Int)) = false →
                                                  Value.bool true = Value.bool true ∧
                                                    y.fst = y.fst ∧
                                                      z.snd.fst.fst = z.snd.fst.fst ∧
                                                        z.snd.snd.fst = z.snd.snd.fst ∧ bs { data := #[] } = bs { data := #[] } ∧ x.fst = x.fst ∧ J (y_1.fst, ()) ((), (), ()))) ∧
                                              ∀ (u : Int × Unit) (z_1 : Unit × Unit × Unit),
                                                Kd.wf (Kd.int IntKind.i64) u.fst ∧ True →
                                                  True ∧ True ∧ True →
                                                    J u z_1 →
                                                      (decide ((0 : Int) < u.fst) = true → True) ∧
                                                        (decide ((0 : Int) < u.fst) = true → True) ∧
                                                          (decide ((0 : Int) < u.fst) = true → True) ∧
                                                            (decide ((0 : Int) < u.fst) = true → True) ∧
                                                              (decide ((0 : Int) < u.fst) = true → True) ∧
                                                                (decide ((0 : Int) < u.fst) = true → (decide ((0 : Int) < u.fst) == true) = true ∧ (decide ((0 : Int) < u.fst) == true) = true ∧ True) ∧
                                                                  (decide ((0 : Int) < u.fst) = true →
                                                                      (decide ((0 : Int) < u.fst) == true) = true ∧
                                                                        (decide ((0 : Int) < u.fst) == true) = true ∧
                                                                          (decide ((0 : Int) < u.fst) == true) = true ∧
                                                                            ((0 : Int) ≤ y.fst ∧
                                                                                y.fst ≤ IntKind.wrap IntKind.i64 (y.fst + u.fst) ∧
                                                                                  IntKind.wrap IntKind.i64 (y.fst + u.fst) ≤ (↑(List.length z.snd.fst.fst) : Int)) ∧
                                                                              True) ∧
                                                                    (decide ((0 : Int) < u.fst) = true →
                                                                        (decide ((0 : Int) < u.fst) == true) = true ∧
                                                                          (decide ((0 : Int) < u.fst) == true) = true ∧
                                                                            ∃ (J : Unit → Unit × (List Int × Unit) × List Int × Unit → Prop),
                                                                              ((decide ((0 : Int) < (↑(List.length z.snd.snd.fst) : Int)) = true →
                                                                                    (0 : Nat) < (1 : Nat) ∧
                                                                                      (List.length z.snd.snd.fst + (1 : Nat)) * (1 : Nat) ≤ (140737488355328 : Nat) ∧
                                                                                        List.length z.snd.snd.fst + (1 : Nat) ≤ (9223372036854775807 : Nat) ∧
                                                                                          List.drop (Int.toNat y.fst) (List.take (Int.toNat (IntKind.wrap IntKind.i64 (y.fst + u.fst))) z.snd.fst.fst) =
                                                                                              List.drop (Int.toNat y.fst)
                                                                                                (List.take (Int.toNat (IntKind.wrap IntKind.i64 (y.fst + u.fst))) z.snd.fst.fst) ∧
                                                                                            List.drop (Int.toNat y.fst) (List.take (Int.toNat (IntKind.wrap IntKind.i64 (y.fst + u.fst))) z.snd.fst.fst) =
                                                                                                List.drop (Int.toNat y.fst)
                                                                                                  (List.take (Int.toNat (IntKind.wrap IntKind.i64 (y.fst + u.fst))) z.snd.fst.fst) ∧
                                                                                              bs { data := #[] } = bs { data := #[] } ∧
                                                                                                x.fst = x.fst ∧
                                                                                                  List.drop (Int.toNat y.fst)
                                                                                                        (List.take (Int.toNat (IntKind.wrap IntKind.i64 (y.fst + u.fst))) z.snd.fst.fst) =
                                                                                                      List.drop (Int.toNat y.fst)
                                                                                                        (List.take (Int.toNat (IntKind.wrap IntKind.i64 (y.fst + u.fst))) z.snd.fst.fst) ∧
                                                                                                    Value.bool true = Value.bool true ∧
                                                                                                      decide ((0 : Int) < u.fst) = decide ((0 : Int) < u.fst) ∧
                                                                                                        u.fst = u.fst ∧
                                                                                                          u.fst = u.fst ∧
                                                                                                            Value.bool true = Value.bool true ∧
                                                                                                              y.fst = y.fst ∧
                                                                                                                bs { data := #[] } = bs { data := #[] } ∧
                                                                                                                  x.fst = x.fst ∧ J () ((), (z.snd.fst.fst, ()), z.snd.snd.fst ++ [(32 : Int)], ())) ∧
                                                                                  (decide ((0 : Int) < (↑(List.length z.snd.snd.fst) : Int)) = false →
                                                                                    List.drop (Int.toNat y.fst) (List.take (Int.toNat (IntKind.wrap IntKind.i64 (y.fst + u.fst))) z.snd.fst.fst) =
                                                                                        List.drop (Int.toNat y.fst) (List.take (Int.toNat (IntKind.wrap IntKind.i64 (y.fst + u.fst))) z.snd.fst.fst) ∧
                                                                                      List.drop (Int.toNat y.fst) (List.take (Int.toNat (IntKind.wrap IntKind.i64 (y.fst + u.fst))) z.snd.fst.fst) =
                                                                                          List.drop (Int.toNat y.fst) (List.take (Int.toNat (IntKind.wrap IntKind.i64 (y.fst + u.fst))) z.snd.fst.fst) ∧
                                                                                        bs { data := #[] } = bs { data := #[] } ∧
                                                                                          x.fst = x.fst ∧
                                                                                            List.drop (Int.toNat y.fst) (List.take (Int.toNat (IntKind.wrap IntKind.i64 (y.fst + u.fst))) z.snd.fst.fst) =
                                                                                                List.drop (Int.toNat y.fst)
                                                                                                  (List.take (Int.toNat (IntKind.wrap IntKind.i64 (y.fst + u.fst))) z.snd.fst.fst) ∧
                                                                                              Value.bool true = Value.bool true ∧
                                                                                                decide ((0 : Int) < u.fst) = decide ((0 : Int) < u.fst) ∧
                                                                                                  u.fst = u.fst ∧
                                                                                                    u.fst = u.fst ∧
                                                                                                      Value.bool true = Value.bool true ∧
                                                                                                        y.fst = y.fst ∧
                                                                                                          bs { data := #[] } = bs { data := #[] } ∧
                                                                                                            x.fst = x.fst ∧ J () ((), (z.snd.fst.fst, ()), z.snd.snd.fst, ()))) ∧
                                                                                ∀ (u_1 : Unit) (z_2 : Unit × (List Int × Unit) × List Int × Unit),
                                                                                  True →
                                                                                    True ∧ (Kd.wf Kd.str z_2.snd.fst.fst ∧ True) ∧ Kd.wf (Kd.sl (Kd.int IntKind.u8)) z_2.snd.snd.fst ∧ True →
                                                                                      J u_1 z_2 →
                                                                                        ∃ (I_1 : Int × Unit → Unit × (List Int × Unit) × List Int × Unit → Prop),
                                                                                          ∃ (μ_1 : Int × Unit → Unit × (List Int × Unit) × List Int × Unit → Nat),
                                                                                            ((↑(List.length
                                                                                                        (List.drop (Int.toNat y.fst)
                                                                                                          (List.take (Int.toNat (IntKind.wrap IntKind.i64 (y.fst + u.fst))) z.snd.fst.fst))) :
                                                                                                    Int) =
                                                                                                  (↑(List.length
                                                                                                        (List.drop (Int.toNat y.fst)
                                                                                                          (List.take (Int.toNat (IntKind.wrap IntKind.i64 (y.fst + u.fst))) z.snd.fst.fst))) :
                                                                                                    Int) ∧
                                                                                                List.drop (Int.toNat y.fst)
                                                                                                      (List.take (Int.toNat (IntKind.wrap IntKind.i64 (y.fst + u.fst))) z.snd.fst.fst) =
                                                                                                    List.drop (Int.toNat y.fst)
                                                                                                      (List.take (Int.toNat (IntKind.wrap IntKind.i64 (y.fst + u.fst))) z.snd.fst.fst) ∧
                                                                                                  List.drop (Int.toNat y.fst)
                                                                                                        (List.take (Int.toNat (IntKind.wrap IntKind.i64 (y.fst + u.fst))) z.snd.fst.fst) =
                                                                                                      List.drop (Int.toNat y.fst)
                                                                                                        (List.take (Int.toNat (IntKind.wrap IntKind.i64 (y.fst + u.fst))) z.snd.fst.fst) ∧
                                                                                                    bs { data := #[] } = bs { data := #[] } ∧
                                                                                                      x.fst = x.fst ∧
                                                                                                        List.drop (Int.toNat y.fst)
                                                                                                              (List.take (Int.toNat (IntKind.wrap IntKind.i64 (y.fst + u.fst))) z.snd.fst.fst) =
                                                                                                            List.drop (Int.toNat y.fst)
                                                                                                              (List.take (Int.toNat (IntKind.wrap IntKind.i64 (y.fst + u.fst))) z.snd.fst.fst) ∧
                                                                                                          Value.bool true = Value.bool true ∧
                                                                                                            decide ((0 : Int) < u.fst) = decide ((0 : Int) < u.fst) ∧
                                                                                                              u.fst = u.fst ∧
                                                                                                                u.fst = u.fst ∧
                                                                                                                  Value.bool true = Value.bool true ∧
                                                                                                                    y.fst = y.fst ∧
                                                                                                                      bs { data := #[] } = bs { data := #[] } ∧
                                                                                                                        x.fst = x.fst ∧
                                                                                                                          I_1 ((0 : Int), ()) ((), (z_2.snd.fst.fst, ()), z_2.snd.snd.fst, ())) ∧
                                                                                              ∀ (y_2 : Int × Unit) (z_3 : Unit × (List Int × Unit) × List Int × Unit),
                                                                                                Kd.wf (Kd.int IntKind.i64) y_2.fst ∧ True →
                                                                                                  True ∧
                                                                                                      (Kd.wf Kd.str z_3.snd.fst.fst ∧ True) ∧ Kd.wf (Kd.sl (Kd.int IntKind.u8)) z_3.snd.snd.fst ∧ True →
                                                                                                    I_1 y_2 z_3 →
                                                                                                      (decide
                                                                                                              (y_2.fst <
                                                                                                                (↑(List.length
                                                                                                                      (List.drop (Int.toNat y.fst)
                                                                                                                        (List.take (Int.toNat (IntKind.wrap IntKind.i64 (y.fst + u.fst)))
                                                                                                                          z.snd.fst.fst))) :
                                                                                                                  Int)) =
                                                                                                            true →
                                                                                                          ((((0 : Int) ≤ y_2.fst ∧
                                                                                                                  y_2.fst <
                                                                                                                    (↑(List.length
                                                                                                                          (List.drop (Int.toNat y.fst)
                                                                                                                            (List.take (Int.toNat (IntKind.wrap IntKind.i64 (y.fst + u.fst)))
                                                                                                                              z.snd.fst.fst))) :
                                                                                                                      Int)) ∧
                                                                                                                (True ∧
                                                                                                                    (∀ (y_3 : Int × Unit),
                                                                                                                        Kd.wf (Kd.int IntKind.u8) y_3.fst ∧ True →
                                                                                                                          y_3.fst =
                                                                                                                              smallD
                                                                                                                                (List.getD
                                                                                                                                  (List.drop (Int.toNat y.fst)
                                                                                                                                    (List.take (Int.toNat (IntKind.wrap IntKind.i64 (y.fst + u.fst)))
                                                                                                                                      z.snd.fst.fst))
                                                                                                                                  (Int.toNat y_2.fst) (0 : Int)) →
                                                                                                                            (((0 : Nat) < (1 : Nat) ∧
                                                                                                                                  (List.length z_3.snd.snd.fst + List.length [y_3.fst]) * (1 : Nat) ≤
                                                                                                                                      (140737488355328 : Nat) ∧
                                                                                                                                    List.length z_3.snd.snd.fst + List.length [y_3.fst] ≤
                                                                                                                                        (9223372036854775807 : Nat) ∧
                                                                                                                                      ((↑(List.length
                                                                                                                                                  (List.drop (Int.toNat y.fst)
                                                                                                                                                    (List.take
                                                                                                                                                      (Int.toNat
                                                                                                                                                        (IntKind.wrap IntKind.i64 (y.fst + u.fst)))
                                                                                                                                                      z.snd.fst.fst))) :
                                                                                                                                              Int) =
                                                                                                                                            (↑(List.length
                                                                                                                                                  (List.drop (Int.toNat y.fst)
                                                                                                                                                    (List.take
                                                                                                                                                      (Int.toNat
                                                                                                                                                        (IntKind.wrap IntKind.i64 (y.fst + u.fst)))
                                                                                                                                                      z.snd.fst.fst))) :
                                                                                                                                              Int) ∧
                                                                                                                                          List.drop (Int.toNat y.fst)
                                                                                                                                                (List.take
                                                                                                                                                  (Int.toNat (IntKind.wrap IntKind.i64 (y.fst + u.fst)))
                                                                                                                                                  z.snd.fst.fst) =
                                                                                                                                              List.drop (Int.toNat y.fst)
                                                                                                                                                (List.take
                                                                                                                                                  (Int.toNat (IntKind.wrap IntKind.i64 (y.fst + u.fst)))
                                                                                                                                                  z.snd.fst.fst) ∧
                                                                                                                                            List.drop (Int.toNat y.fst)
                                                                                                                                                  (List.take
                                                                                                                                                    (Int.toNat (IntKind.wrap IntKind.i64 (y.fst + u.fst)))
                                                                                                                                                    z.snd.fst.fst) =
                                                                                                                                                List.drop (Int.toNat y.fst)
                                                                                                                                                  (List.take
                                                                                                                                                    (Int.toNat (IntKind.wrap IntKind.i64 (y.fst + u.fst)))
                                                                                                                                                    z.snd.fst.fst) ∧
                                                                                                                                              bs { data := #[] } = bs { data := #[] } ∧
                                                                                                                                                x.fst = x.fst ∧
                                                                                                                                                  List.drop (Int.toNat y.fst)
                                                                                                                                                        (List.take
                                                                                                                                                          (Int.toNat
                                                                                                                                                            (IntKind.wrap IntKind.i64 (y.fst + u.fst)))
                                                                                                                                                          z.snd.fst.fst) =
                                                                                                                                                      List.drop (Int.toNat y.fst)
                                                                                                                                                        (List.take
                                                                                                                                                          (Int.toNat
                                                                                                                                                            (IntKind.wrap IntKind.i64 (y.fst + u.fst)))
                                                                                                                                                          z.snd.fst.fst) ∧
                                                                                                                                                    Value.bool true = Value.bool true ∧
                                                                                                                                                      decide ((0 : Int) < u.fst) =
                                                                                                                                                          decide ((0 : Int) < u.fst) ∧
                                                                                                                                                        u.fst = u.fst ∧
                                                                                                                                                          u.fst = u.fst ∧
                                                                                                                                                            Value.bool true = Value.bool true ∧
                                                                                                                                                              y.fst = y.fst ∧
                                                                                                                                                                bs { data := #[] } = bs { data := #[] } ∧
                                                                                                                                                                  x.fst = x.fst ∧
                                                                                                                                                                    I_1
                                                                                                                                                                        (IntKind.wrap IntKind.i64
                                                                                                                                                                            (y_2.fst + (1 : Int)),
                                                                                                                                                                          ())
                                                                                                                                                                        ((), (z_3.snd.fst.fst, ()),
                                                                                                                                                                          z_3.snd.snd.fst ++ [y_3.fst],
                                                                                                                                                                          ()) ∧
                                                                                                                                                                      μ_1
                                                                                                                                                                          (IntKind.wrap IntKind.i64
                                                                                                                                                                              (y_2.fst + (1 : Int)),
                                                                                                                                                                            ())
                                                                                                                                                                          ((), (z_3.snd.fst.fst, ()),
                                                                                                                                                                            z_3.snd.snd.fst ++ [y_3.fst],
                                                                                                                                                                            ()) <
                                                                                                                                                                        μ_1 y_2 z_3) ∧
                                                                                                                                        True) ∧
                                                                                                                                True) ∧
                                                                                                                              True) ∧
                                                                                                                      True) ∧
                                                                                                                  True) ∧
                                                                                                              True) ∧
                                                                                                            (((0 : Int) ≤ y_2.fst ∧
                                                                                                                  y_2.fst <
                                                                                                                    (↑(List.length
                                                                                                                          (List.drop (Int.toNat y.fst)
                                                                                                                            (List.take (Int.toNat (IntKind.wrap IntKind.i64 (y.fst + u.fst)))
                                                                                                                              z.snd.fst.fst))) :
                                                                                                                      Int)) ∧
                                                                                                                ((True ∧
                                                                                                                      (∀ (y_3 : Int × Unit),
                                                                                                                          Kd.wf (Kd.int IntKind.u8) y_3.fst ∧ True →
                                                                                                                            y_3.fst =
                                                                                                                                smallD
                                                                                                                                  (List.getD
                                                                                                                                    (List.drop (Int.toNat y.fst)
                                                                                                                                      (List.take (Int.toNat (IntKind.wrap IntKind.i64 (y.fst + u.fst)))
                                                                                                                                        z.snd.fst.fst))
                                                                                                                                    (Int.toNat y_2.fst) (0 : Int)) →
                                                                                                                              (((0 : Nat) < (1 : Nat) ∧
                                                                                                                                    (List.length z_3.snd.snd.fst + List.length [y_3.fst]) * (1 : Nat) ≤
                                                                                                                                        (140737488355328 : Nat) ∧
                                                                                                                                      List.length z_3.snd.snd.fst + List.length [y_3.fst] ≤
                                                                                                                                          (9223372036854775807 : Nat) ∧
                                                                                                                                        ((↑(List.length
                                                                                                                                                    (List.drop (Int.toNat y.fst)
                                                                                                                                                      (List.take
                                                                                                                                                        (Int.toNat
                                                                                                                                                          (IntKind.wrap IntKind.i64 (y.fst + u.fst)))
                                                                                                                                                        z.snd.fst.fst))) :
                                                                                                                                                Int) =
                                                                                                                                              (↑(List.length
                                                                                                                                                    (List.drop (Int.toNat y.fst)
                                                                                                                                                      (List.take
                                                                                                                                                        (Int.toNat
                                                                                                                                                          (IntKind.wrap IntKind.i64 (y.fst + u.fst)))
                                                                                                                                                        z.snd.fst.fst))) :
                                                                                                                                                Int) ∧
                                                                                                                                            List.drop (Int.toNat y.fst)
                                                                                                                                                  (List.take
                                                                                                                                                    (Int.toNat (IntKind.wrap IntKind.i64 (y.fst + u.fst)))
                                                                                                                                                    z.snd.fst.fst) =
                                                                                                                                                List.drop (Int.toNat y.fst)
                                                                                                                                                  (List.take
                                                                                                                                                    (Int.toNat (IntKind.wrap IntKind.i64 (y.fst + u.fst)))
                                                                                                                                                    z.snd.fst.fst) ∧
                                                                                                                                              List.drop (Int.toNat y.fst)
                                                                                                                                                    (List.take
                                                                                                                                                      (Int.toNat
                                                                                                                                                        (IntKind.wrap IntKind.i64 (y.fst + u.fst)))
                                                                                                                                                      z.snd.fst.fst) =
                                                                                                                                                  List.drop (Int.toNat y.fst)
                                                                                                                                                    (List.take
                                                                                                                                                      (Int.toNat
                                                                                                                                                        (IntKind.wrap IntKind.i64 (y.fst + u.fst)))
                                                                                                                                                      z.snd.fst.fst) ∧
                                                                                                                                                bs { data := #[] } = bs { data := #[] } ∧
                                                                                                                                                  x.fst = x.fst ∧
                                                                                                                                                    List.drop (Int.toNat y.fst)
                                                                                                                                                          (List.take
                                                                                                                                                            (Int.toNat
                                                                                                                                                              (IntKind.wrap IntKind.i64 (y.fst + u.fst)))
                                                                                                                                                            z.snd.fst.fst) =
                                                                                                                                                        List.drop (Int.toNat y.fst)
                                                                                                                                                          (List.take
                                                                                                                                                            (Int.toNat
                                                                                                                                                              (IntKind.wrap IntKind.i64 (y.fst + u.fst)))
                                                                                                                                                            z.snd.fst.fst) ∧
                                                                                                                                                      Value.bool true = Value.bool true ∧
                                                                                                                                                        decide ((0 : Int) < u.fst) =
                                                                                                                                                            decide ((0 : Int) < u.fst) ∧
                                                                                                                                                          u.fst = u.fst ∧
                                                                                                                                                            u.fst = u.fst ∧
                                                                                                                                                              Value.bool true = Value.bool true ∧
                                                                                                                                                                y.fst = y.fst ∧
                                                                                                                                                                  bs { data := #[] } =
                                                                                                                                                                      bs { data := #[] } ∧
                                                                                                                                                                    x.fst = x.fst ∧
                                                                                                                                                                      I_1
                                                                                                                                                                          (IntKind.wrap IntKind.i64
                                                                                                                                                                              (y_2.fst + (1 : Int)),
                                                                                                                                                                            ())
                                                                                                                                                                          ((), (z_3.snd.fst.fst, ()),
                                                                                                                                                                            z_3.snd.snd.fst ++ [y_3.fst],
                                                                                                                                                                            ()) ∧
                                                                                                                                                                        μ_1
                                                                                                                                                                            (IntKind.wrap IntKind.i64
                                                                                                                                                                                (y_2.fst + (1 : Int)),
                                                                                                                                                                              ())
                                                                                                                                                                            ((), (z_3.snd.fst.fst, ()),
                                                                                                                                                                              z_3.snd.snd.fst ++
                                                                                                                                                                                [y_3.fst],
                                                                                                                                                                              ()) <
                                                                                                                                                                          μ_1 y_2 z_3) ∧
                                                                                                                                          True) ∧
                                                                                                                                  True) ∧
                                                                                                                                True) ∧
                                                                                                                        True) ∧
                                                                                                                    True) ∧
                                                                                                                  (True ∧
                                                                                                                      (∀ (y_3 : Int × Unit),
                                                                                                                          Kd.wf (Kd.int IntKind.u8) y_3.fst ∧ True →
                                                                                                                            y_3.fst =
                                                                                                                                smallD
                                                                                                                                  (List.getD
                                                                                                                                    (List.drop (Int.toNat y.fst)
                                                                                                                                      (List.take (Int.toNat (IntKind.wrap IntKind.i64 (y.fst + u.fst)))
                                                                                                                                        z.snd.fst.fst))
                                                                                                                                    (Int.toNat y_2.fst) (0 : Int)) →
                                                                                                                              ((((0 : Nat) < (1 : Nat) ∧
                                                                                                                                      (List.length z_3.snd.snd.fst + List.length [y_3.fst]) * (1 : Nat) ≤
                                                                                                                                          (140737488355328 : Nat) ∧
                                                                                                                                        List.length z_3.snd.snd.fst + List.length [y_3.fst] ≤
                                                                                                                                            (9223372036854775807 : Nat) ∧
                                                                                                                                          ((↑(List.length
                                                                                                                                                      (List.drop (Int.toNat y.fst)
                                                                                                                                                        (List.take
                                                                                                                                                          (Int.toNat
                                                                                                                                                            (IntKind.wrap IntKind.i64 (y.fst + u.fst)))
                                                                                                                                                          z.snd.fst.fst))) :
                                                                                                                                                  Int) =
                                                                                                                                                (↑(List.length
                                                                                                                                                      (List.drop (Int.toNat y.fst)
                                                                                                                                                        (List.take
                                                                                                                                                          (Int.toNat
                                                                                                                                                            (IntKind.wrap IntKind.i64 (y.fst + u.fst)))
                                                                                                                                                          z.snd.fst.fst))) :
                                                                                                                                                  Int) ∧
                                                                                                                                              List.drop (Int.toNat y.fst)
                                                                                                                                                    (List.take
                                                                                                                                                      (Int.toNat
                                                                                                                                                        (IntKind.wrap IntKind.i64 (y.fst + u.fst)))
                                                                                                                                                      z.snd.fst.fst) =
                                                                                                                                                  List.drop (Int.toNat y.fst)
                                                                                                                                                    (List.take
                                                                                                                                                      (Int.toNat
                                                                                                                                                        (IntKind.wrap IntKind.i64 (y.fst + u.fst)))
                                                                                                                                                      z.snd.fst.fst) ∧
                                                                                                                                                List.drop (Int.toNat y.fst)
                                                                                                                                                      (List.take
                                                                                                                                                        (Int.toNat
                                                                                                                                                          (IntKind.wrap IntKind.i64 (y.fst + u.fst)))
                                                                                                                                                        z.snd.fst.fst) =
                                                                                                                                                    List.drop (Int.toNat y.fst)
                                                                                                                                                      (List.take
                                                                                                                                                        (Int.toNat
                                                                                                                                                          (IntKind.wrap IntKind.i64 (y.fst + u.fst)))
                                                                                                                                                        z.snd.fst.fst) ∧
                                                                                                                                                  bs { data := #[] } = bs { data := #[] } ∧
                                                                                                                                                    x.fst = x.fst ∧
                                                                                                                                                      List.drop (Int.toNat y.fst)
                                                                                                                                                            (List.take
                                                                                                                                                              (Int.toNat
                                                                                                                                                                (IntKind.wrap IntKind.i64
                                                                                                                                                                  (y.fst + u.fst)))
                                                                                                                                                              z.snd.fst.fst) =
                                                                                                                                                          List.drop (Int.toNat y.fst)
                                                                                                                                                            (List.take
                                                                                                                                                              (Int.toNat
                                                                                                                                                                (IntKind.wrap IntKind.i64
                                                                                                                                                                  (y.fst + u.fst)))
                                                                                                                                                              z.snd.fst.fst) ∧
                                                                                                                                                        Value.bool true = Value.bool true ∧
                                                                                                                                                          decide ((0 : Int) < u.fst) =
                                                                                                                                                              decide ((0 : Int) < u.fst) ∧
                                                                                                                                                            u.fst = u.fst ∧
                                                                                                                                                              u.fst = u.fst ∧
                                                                                                                                                                Value.bool true = Value.bool true ∧
                                                                                                                                                                  y.fst = y.fst ∧
                                                                                                                                                                    bs { data := #[] } =
                                                                                                                                                                        bs { data := #[] } ∧
                                                                                                                                                                      x.fst = x.fst ∧
                                                                                                                                                                        I_1
                                                                                                                                                                            (IntKind.wrap IntKind.i64
                                                                                                                                                                                (y_2.fst + (1 : Int)),
                                                                                                                                                                              ())
                                                                                                                                                                            ((), (z_3.snd.fst.fst, ()),
                                                                                                                                                                              z_3.snd.snd.fst ++
                                                                                                                                                                                [y_3.fst],
                                                                                                                                                                              ()) ∧
                                                                                                                                                                          μ_1
                                                                                                                                                                              (IntKind.wrap IntKind.i64
                                                                                                                                                                                  (y_2.fst + (1 : Int)),
                                                                                                                                                                                ())
                                                                                                                                                                              ((), (z_3.snd.fst.fst, ()),
                                                                                                                                                                                z_3.snd.snd.fst ++
                                                                                                                                                                                  [y_3.fst],
                                                                                                                                                                                ()) <
                                                                                                                                                                            μ_1 y_2 z_3) ∧
                                                                                                                                            True) ∧
                                                                                                                                    True) ∧
                                                                                                                                  True) ∧
                                                                                                                                ((((0 : Nat) < (1 : Nat) ∧
                                                                                                                                        (List.length z_3.snd.snd.fst + List.length [y_3.fst]) *
                                                                                                                                              (1 : Nat) ≤
                                                                                                                                            (140737488355328 : Nat) ∧
                                                                                                                                          List.length z_3.snd.snd.fst + List.length [y_3.fst] ≤
                                                                                                                                              (9223372036854775807 : Nat) ∧
                                                                                                                                            ((↑(List.length
                                                                                                                                                        (List.drop (Int.toNat y.fst)
                                                                                                                                                          (List.take
                                                                                                                                                            (Int.toNat
                                                                                                                                                              (IntKind.wrap IntKind.i64 (y.fst + u.fst)))
                                                                                                                                                            z.snd.fst.fst))) :
                                                                                                                                                    Int) =
                                                                                                                                                  (↑(List.length
                                                                                                                                                        (List.drop (Int.toNat y.fst)
                                                                                                                                                          (List.take
                                                                                                                                                            (Int.toNat
                                                                                                                                                              (IntKind.wrap IntKind.i64 (y.fst + u.fst)))
                                                                                                                                                            z.snd.fst.fst))) :
                                                                                                                                                    Int) ∧
                                                                                                                                                List.drop (Int.toNat y.fst)
                                                                                                                                                      (List.take
                                                                                                                                                        (Int.toNat
                                                                                                                                                          (IntKind.wrap IntKind.i64 (y.fst + u.fst)))
                                                                                                                                                        z.snd.fst.fst) =
                                                                                                                                                    List.drop (Int.toNat y.fst)
                                                                                                                                                      (List.take
                                                                                                                                                        (Int.toNat
                                                                                                                                                          (IntKind.wrap IntKind.i64 (y.fst + u.fst)))
                                                                                                                                                        z.snd.fst.fst) ∧
                                                                                                                                                  List.drop (Int.toNat y.fst)
                                                                                                                                                        (List.take
                                                                                                                                                          (Int.toNat
                                                                                                                                                            (IntKind.wrap IntKind.i64 (y.fst + u.fst)))
                                                                                                                                                          z.snd.fst.fst) =
                                                                                                                                                      List.drop (Int.toNat y.fst)
                                                                                                                                                        (List.take
                                                                                                                                                          (Int.toNat
                                                                                                                                                            (IntKind.wrap IntKind.i64 (y.fst + u.fst)))
                                                                                                                                                          z.snd.fst.fst) ∧
                                                                                                                                                    bs { data := #[] } = bs { data := #[] } ∧
                                                                                                                                                      x.fst = x.fst ∧
                                                                                                                                                        List.drop (Int.toNat y.fst)
                                                                                                                                                              (List.take
                                                                                                                                                                (Int.toNat
                                                                                                                                                                  (IntKind.wrap IntKind.i64
                                                                                                                                                                    (y.fst + u.fst)))
                                                                                                                                                                z.snd.fst.fst) =
                                                                                                                                                            List.drop (Int.toNat y.fst)
                                                                                                                                                              (List.take
                                                                                                                                                                (Int.toNat
                                                                                                                                                                  (IntKind.wrap IntKind.i64
                                                                                                                                                                    (y.fst + u.fst)))
                                                                                                                                                                z.snd.fst.fst) ∧
                                                                                                                                                          Value.bool true = Value.bool true ∧
                                                                                                                                                            decide ((0 : Int) < u.fst) =
                                                                                                                                                                decide ((0 : Int) < u.fst) ∧
                                                                                                                                                              u.fst = u.fst ∧
                                                                                                                                                                u.fst = u.fst ∧
                                                                                                                                                                  Value.bool true = Value.bool true ∧
                                                                                                                                                                    y.fst = y.fst ∧
                                                                                                                                                                      bs { data := #[] } =
                                                                                                                                                                          bs { data := #[] } ∧
                                                                                                                                                                        x.fst = x.fst ∧
                                                                                                                                                                          I_1
                                                                                                                                                                              (IntKind.wrap IntKind.i64
                                                                                                                                                                                  (y_2.fst + (1 : Int)),
                                                                                                                                                                                ())
                                                                                                                                                                              ((), (z_3.snd.fst.fst, ()),
                                                                                                                                                                                z_3.snd.snd.fst ++
                                                                                                                                                                                  [y_3.fst],
                                                                                                                                                                                ()) ∧
                                                                                                                                                                            μ_1
                                                                                                                                                                                (IntKind.wrap IntKind.i64
                                                                                                                                                                                    (y_2.fst + (1 : Int)),
                                                                                                                                                                                  ())
                                                                                                                                                                                ((),
                                                                                                                                                                                  (z_3.snd.fst.fst, ()),
                                                                                                                                                                                  z_3.snd.snd.fst ++
                                                                                                                                                                                    [y_3.fst],
                                                                                                                                                                                  ()) <
                                                                                                                                                                              μ_1 y_2 z_3) ∧
                                                                                                                                              True) ∧
                                                                                                                                      True) ∧
                                                                                                                                    True) ∧
                                                                                                                                  True) ∧
                                                                                                                        True) ∧
                                                                                                                    True) ∧
                                                                                                              True) ∧
                                                                                                        (decide
                                                                                                              (y_2.fst <
                                                                                                                (↑(List.length
                                                                                                                      (List.drop (Int.toNat y.fst)
                                                                                                                        (List.take (Int.toNat (IntKind.wrap IntKind.i64 (y.fst + u.fst)))
                                                                                                                          z.snd.fst.fst))) :
                                                                                                                  Int)) =
                                                                                                            false →
                                                                                                          bs { data := #[] } = bs { data := #[] } ∧
                                                                                                            x.fst = x.fst ∧
                                                                                                              I (IntKind.wrap IntKind.i64 (y.fst + IntKind.wrap IntKind.i64 (u.fst + (1 : Int))), ())
                                                                                                                  ((), (z_3.snd.fst.fst, ()), z_3.snd.snd.fst, ()) ∧
                                                                                                                μ (IntKind.wrap IntKind.i64 (y.fst + IntKind.wrap IntKind.i64 (u.fst + (1 : Int))), ())
                                                                                                                    ((), (z_3.snd.fst.fst, ()), z_3.snd.snd.fst, ()) <
                                                                                                                  μ y z)) ∧
                                                                      (decide ((0 : Int) < u.fst) = !true →
                                                                        bs { data := #[] } = bs { data := #[] } ∧
                                                                          x.fst = x.fst ∧
                                                                            I (IntKind.wrap IntKind.i64 (y.fst + IntKind.wrap IntKind.i64 (u.fst + (1 : Int))), ())
                                                                                ((), (z.snd.fst.fst, ()), z.snd.snd.fst, ()) ∧
                                                                              μ (IntKind.wrap IntKind.i64 (y.fst + IntKind.wrap IntKind.i64 (u.fst + (1 : Int))), ())
                                                                                  ((), (z.snd.fst.fst, ()), z.snd.snd.fst, ()) <
                                                                                μ y z)) ∧
                                    True) ∧
                            (decide (y.fst < (↑(List.length z.snd.fst.fst) : Int)) = false → z.snd.snd.fst = foldD x.fst)
theorem e15 : t15 = Con.vc c15 GL (mkEnv ty [(13, i13), (27, conSem c27)] [(25, i25)] [] [0, 2, 3, 4, 5, 7, 8, 11, 16, 17, 18]) {joins := [6]} Tryd.f15.ntmps Tryd.f15.results.toList (bodyOf Tryd.f15) := by kernel_rfl
theorem k15 : t15 := by
  unfold t15
  rintro ⟨l, _⟩ hx hp
  have hw : Kd.wf Kd.str l := hx.1
  have hp : l.length ≤ 100000000 := hp
  try dsimp +instances only [dft_int, dft_sl, dft_str]
  simp only [true_and, and_true, eq_self_iff_true, implies_true, reduceCtorEq, false_implies, true_implies, decide_eq_true_eq, decide_eq_false_iff_not, beq_self_eq_true, Bool.not_eq_true', ne_eq, Decidable.not_not, List.nil_append, List.length_singleton, List.length_cons, List.length_nil, Nat.zero_add, Nat.add_zero, Nat.mul_one, and_self, beq_iff_eq, Bool.not_true, Bool.not_false, Bool.not_eq_false', Bool.cond_false_right, Bool.and_eq_true, imp_self, Bool.not_eq_true, Bool.cond_true_left, Bool.or_eq_true]
  refine ⟨by decide, by decide, fun y z => 0 ≤ y.1 ∧ y.1 ≤ l.length + 1 ∧ z.2.1.1 = l ∧ (z.2.2.1.length : Int) ≤ 2 * y.1 ∧ foldD l = joinF z.2.2.1 (wordsA [] (l.drop y.1.toNat)), fun y _ => ((l.length : Int) + 1 - y.1).toNat, ⟨by decide, by omega, rfl, by simp, rfl⟩, ?_⟩
  rintro ⟨i, _⟩ ⟨_, ⟨m, _⟩, b, _⟩ _ _ ⟨h0, h1, h2, h3, h4⟩
  simp only at h0 h1 h2 h3 h4 ⊢
  subst h2
  refine ⟨fun hlt => ⟨⟨h0, by omega⟩, ?_⟩, fun hge => ?_⟩
  rotate_left
  · rw [h4, List.drop_of_length_le (by omega), words_end]; rfl
  rintro ⟨k, _⟩ _ ek
  simp only at ek ⊢
  have hdl : (m.drop i.toNat).length = m.length - i.toNat := by simp
  refine ⟨fun u _ => idxB (m.drop i.toNat) 32 < 0 ∧ u.1 = (m.drop i.toNat).length ∨ 0 ≤ idxB (m.drop i.toNat) 32 ∧ u.1 = idxB (m.drop i.toNat) 32, ⟨fun h => .inl ⟨by omega, ?_⟩, fun h => .inr ⟨by omega, ek⟩⟩, ?_⟩
  · rw [hdl]
    have : IntKind.wrap .i64 ((m.length : Int) - i) = m.length - i := wrapK _ (by omega) (by omega)
    rw [this]; omega
  rintro ⟨n, _⟩ _ _ hJ
  obtain ⟨n0, n1, n2⟩ := idx_split hJ
  clear hJ
  simp only at n0 n1 n2 ⊢
  rw [hdl] at n1
  have e1 : IntKind.wrap .i64 (n + 1) = n + 1 := wrapK _ (by omega) (by omega)
  have e2 : IntKind.wrap .i64 (i + (n + 1)) = i + (n + 1) := wrapK _ (by omega) (by omega)
  have e3 : IntKind.wrap .i64 (i + n) = i + n := wrapK _ (by omega) (by omega)
  rw [e1, e2, e3]
  have e4 : (i + (n + 1)).toNat = i.toNat + (n.toNat + 1) := by omega
  have e5 : (i + n).toNat = i.toNat + n.toNat := by omega
  rw [List.drop_drop, ← e4] at n2
  refine ⟨fun h => ⟨h, h, h, h0, by omega, by omega⟩, fun h => ⟨h, h, ?_⟩, fun h => ⟨⟨by omega, by omega, trivial, by omega, ?_⟩, by omega⟩⟩
  rotate_left
  · rw [h4, n2, if_pos (by omega), List.nil_append]
  rw [if_neg (by omega)] at n2
  have ew : (m.take (i + n).toNat).drop i.toNat = (m.drop i.toNat).take n.toNat := by rw [e5, List.drop_take, Nat.add_sub_cancel_left]
  rw [ew]
  have hwl : ((m.drop i.toNat).take n.toNat).length = n.toNat := by rw [List.length_take, hdl]; omega
  generalize (m.drop i.toNat).take n.toNat = w at n2 hwl ⊢
  refine ⟨fun _ z => z.2.1.1 = m ∧ z.2.2.1 = b ++ (if b = [] then [] else [32]), ⟨fun hb => ⟨by decide, by omega, by omega, rfl, ?_⟩, fun hb => ⟨rfl, ?_⟩⟩, ?_⟩
  · rw [if_neg (fun e => by rw [e] at hb; simp at hb)]
  · have : b = [] := List.eq_nil_of_length_eq_zero (by omega)
    subst this; rfl
  rintro _ ⟨_, ⟨m2, _⟩, c, _⟩ _ ⟨em, ec⟩
  simp only at em ec ⊢
  subst em
  have hcl : (c.length : Int) ≤ 2 * i + 1 := by
    rw [ec, List.length_append]
    split <;> simp <;> omega
  refine ⟨fun y z => 0 ≤ y.1 ∧ y.1 ≤ w.length ∧ z.2.1.1 = m2 ∧ z.2.2.1 = c ++ (w.take y.1.toNat).map smallD, fun y _ => ((w.length : Int) - y.1).toNat, ⟨by decide, by omega, rfl, by simp⟩, ?_⟩
  rintro ⟨j, _⟩ ⟨_, ⟨m3, _⟩, d, _⟩ _ _ ⟨j0, j1, em3, ed⟩
  simp only at j0 j1 em3 ed ⊢
  subst em3
  have hdl : (d.length : Int) = c.length + j := by
    rw [ed, List.length_append, List.length_map, List.length_take]
    omega
  refine ⟨fun hlt => ⟨⟨j0, hlt⟩, ?_⟩, fun hge => ⟨⟨by omega, by omega, rfl, by omega, ?_⟩, by omega⟩⟩
  · rintro ⟨s, _⟩ _ es
    simp only at es ⊢
    have e6 : IntKind.wrap .i64 (j + 1) = j + 1 := wrapK _ (by omega) (by omega)
    rw [e6]
    refine ⟨by decide, by omega, by omega, ⟨by omega, by omega, trivial, ?_⟩, by omega⟩
    rw [show (j + 1).toNat = j.toNat + 1 by omega, take_snoc w j.toNat (by omega), List.map_append, ed, es, List.append_assoc]
    rfl
  · rw [h4, n2, List.singleton_append, joinF, ed, ec, List.take_of_length_le (by omega)]
theorem h15 : c15.ok Tryd.prog GL 15 := con_ok (H := {joins := [6]}) (mkEnv_ok (gl := GL) (l := [(13, i13), (27, conSem c27)]) (q := [(25, i25)]) (d := []) _ tyOk (by kernel_rfl) ⟨i13_ok, h27.call, trivial⟩ ⟨i25_ok, trivial⟩ trivial) (by kernel_rfl) (by kernel_rfl) (Eq.mp e15 k15)

def t16 : Prop :=
  ∀ (x : List Int × Unit),
    Kd.wf Kd.str x.fst ∧ True →
      List.length x.fst ≤ (100000000 : Nat) →
        List.length x.fst ≤ (100000000 : Nat) ∧
          (∀ (y : List (List Int) × Unit),
              Kd.wf (Kd.sl Kd.str) y.fst ∧ True →
                y.fst = wordsD x.fst →
                  ∃ (I : Int × Unit → List Int × Unit → Prop),
                    ∃ (μ : Int × Unit → List Int × Unit → Nat),
                      (bs { data := #[] } = bs { data := #[] } ∧ x.fst = x.fst ∧ y.fst = y.fst ∧ I ((0 : Int), ()) ([], ())) ∧
                        ∀ (y_1 : Int × Unit) (z : List Int × Unit),
                          Kd.wf (Kd.int IntKind.i64) y_1.fst ∧ True →
                            Kd.wf (Kd.sl (Kd.int IntKind.u8)) z.fst ∧ True →
                              I y_1 z →
                                (decide (y_1.fst < (↑(List.length y.fst) : Int)) = true →
                                    ∃ (J : Unit → List Int × Unit → Prop),
                                      ((decide ((0 : Int) < y_1.fst) = true →
                                            (0 : Nat) < (1 : Nat) ∧
                                              (List.length z.fst + (1 : Nat)) * (1 : Nat) ≤ (140737488355328 : Nat) ∧
                                                List.length z.fst + (1 : Nat) ≤ (9223372036854775807 : Nat) ∧
                                                  Value.bool true = Value.bool true ∧
                                                    y_1.fst = y_1.fst ∧ bs { data := #[] } = bs { data := #[] } ∧ x.fst = x.fst ∧ y.fst = y.fst ∧ J () (z.fst ++ [(32 : Int)], ())) ∧
                                          (decide ((0 : Int) < y_1.fst) = false →
                                            Value.bool true = Value.bool true ∧ y_1.fst = y_1.fst ∧ bs { data := #[] } = bs { data := #[] } ∧ x.fst = x.fst ∧ y.fst = y.fst ∧ J () (z.fst, ()))) ∧
                                        ∀ (u : Unit) (z_1 : List Int × Unit),
                                          True →
                                            Kd.wf (Kd.sl (Kd.int IntKind.u8)) z_1.fst ∧ True →
                                              J u z_1 →
                                                ∃ (I_1 : Int × Unit → List Int × Unit → Prop),
                                                  ∃ (μ_1 : Int × Unit → List Int × Unit → Nat),
                                                    (Value.bool true = Value.bool true ∧
                                                        y_1.fst = y_1.fst ∧ bs { data := #[] } = bs { data := #[] } ∧ x.fst = x.fst ∧ y.fst = y.fst ∧ I_1 ((0 : Int), ()) (z_1.fst, ())) ∧
                                                      ∀ (y_2 : Int × Unit) (z_2 : List Int × Unit),
                                                        Kd.wf (Kd.int IntKind.i64) y_2.fst ∧ True →
                                                          Kd.wf (Kd.sl (Kd.int IntKind.u8)) z_2.fst ∧ True →
                                                            I_1 y_2 z_2 →
                                                              ((0 : Int) ≤ y_1.fst ∧ y_1.fst < (↑(List.length y.fst) : Int)) ∧
                                                                (decide (y_2.fst < (↑(List.length (List.getD y.fst (Int.toNat y_1.fst) (Kd.dft Kd.str))) : Int)) = true →
                                                                    ((0 : Int) ≤ y_1.fst ∧ y_1.fst < (↑(List.length y.fst) : Int)) ∧
                                                                      ((0 : Int) ≤ y_2.fst ∧ y_2.fst < (↑(List.length (List.getD y.fst (Int.toNat y_1.fst) (Kd.dft Kd.str))) : Int)) ∧
                                                                        ∃ (J : Int × Unit → Unit → Prop),
                                                                          ((decide ((65 : Int) ≤ List.getD (List.getD y.fst (Int.toNat y_1.fst) (Kd.dft Kd.str)) (Int.toNat y_2.fst) (0 : Int)) = true →
                                                                                True) ∧
                                                                              (decide ((65 : Int) ≤ List.getD (List.getD y.fst (Int.toNat y_1.fst) (Kd.dft Kd.str)) (Int.toNat y_2.fst) (0 : Int)) =
                                                                                    true →
                                                                                  (decide ((65 : Int) ≤ List.getD (List.getD y.fst (Int.toNat y_1.fst) (Kd.dft Kd.str)) (Int.toNat y_2.fst) (0 : Int)) ==
                                                                                        true) =
                                                                                      true ∧
                                                                                    True) ∧
                                                                                (decide ((65 : Int) ≤ List.getD (List.getD y.fst (Int.toNat y_1.fst) (Kd.dft Kd.str)) (Int.toNat y_2.fst) (0 : Int)) =
                                                                                      true →
                                                                                    (decide
                                                                                          ((65 : Int) ≤ List.getD (List.getD y.fst (Int.toNat y_1.fst) (Kd.dft Kd.str)) (Int.toNat y_2.fst) (0 : Int)) ==
                                                                                        true) =
                                                                                      true) ∧
                                                                                  ((bif
                                                                                            decide
                                                                                              ((65 : Int) ≤
                                                                                                List.getD (List.getD y.fst (Int.toNat y_1.fst) (Kd.dft Kd.str)) (Int.toNat y_2.fst) (0 : Int)) then
                                                                                          decide
                                                                                            (List.getD (List.getD y.fst (Int.toNat y_1.fst) (Kd.dft Kd.str)) (Int.toNat y_2.fst) (0 : Int) ≤ (90 : Int))
                                                                                        else false) =
                                                                                        true →
                                                                                      Value.bool true = Value.bool true ∧
                                                                                        y_2.fst = y_2.fst ∧
                                                                                          Value.bool true = Value.bool true ∧
                                                                                            y_1.fst = y_1.fst ∧
                                                                                              bs { data := #[] } = bs { data := #[] } ∧
                                                                                                x.fst = x.fst ∧
                                                                                                  y.fst = y.fst ∧
                                                                                                    z_2.fst = z_2.fst ∧
                                                                                                      J
                                                                                                        (IntKind.wrap IntKind.u8
                                                                                                            (List.getD (List.getD y.fst (Int.toNat y_1.fst) (Kd.dft Kd.str)) (Int.toNat y_2.fst)
                                                                                                                (0 : Int) +
                                                                                                              (32 : Int)),
                                                                                                          ())
                                                                                                        ()) ∧
                                                                                    ((bif
                                                                                            decide
                                                                                              ((65 : Int) ≤
                                                                                                List.getD (List.getD y.fst (Int.toNat y_1.fst) (Kd.dft Kd.str)) (Int.toNat y_2.fst) (0 : Int)) then
                                                                                          decide
                                                                                            (List.getD (List.getD y.fst (Int.toNat y_1.fst) (Kd.dft Kd.str)) (Int.toNat y_2.fst) (0 : Int) ≤ (90 : Int))
                                                                                        else false) =
                                                                                        false →
                                                                                      Value.bool true = Value.bool true ∧
                                                                                        y_2.fst = y_2.fst ∧
                                                                                          Value.bool true = Value.bool true ∧
                                                                                            y_1.fst = y_1.fst ∧
                                                                                              bs { data := #[] } = bs { data := #[] } ∧
                                                                                                x.fst = x.fst ∧
                                                                                                  y.fst = y.fst ∧
                                                                                                    z_2.fst = z_2.fst ∧
                                                                                                      J
                                                                                                        (List.getD (List.getD y.fst (Int.toNat y_1.fst) (Kd.dft Kd.str)) (Int.toNat y_2.fst) (0 : Int),
                                                                                                          ())
                                                                                                        ())) ∧
                                                                            ∀ (u : Int × Unit) (z : Unit),
                                                                              Kd.wf (Kd.int IntKind.u8) u.fst ∧ True →
                                                                                True →
                                                                                  J u z →
                                                                                    (0 : Nat) < (1 : Nat) ∧
                                                                                      (List.length z_2.fst + List.length [u.fst]) * (1 : Nat) ≤ (140737488355328 : Nat) ∧
                                                                                        List.length z_2.fst + List.length [u.fst] ≤ (9223372036854775807 : Nat) ∧
                                                                                          Value.bool true = Value.bool true ∧
                                                                                            y_1.fst = y_1.fst ∧
                                                                                              bs { data := #[] } = bs { data := #[] } ∧
                                                                                                x.fst = x.fst ∧
                                                                                                  y.fst = y.fst ∧
                                                                                                    I_1 (IntKind.wrap IntKind.i64 (y_2.fst + (1 : Int)), ()) (z_2.fst ++ [u.fst], ()) ∧
                                                                                                      μ_1 (IntKind.wrap IntKind.i64 (y_2.fst + (1 : Int)), ()) (z_2.fst ++ [u.fst], ()) < μ_1 y_2 z_2) ∧
                                                                  (decide (y_2.fst < (↑(List.length (List.getD y.fst (Int.toNat y_1.fst) (Kd.dft Kd.str))) : Int)) = false →
                                                                    bs { data := #[] } = bs { data := #[] } ∧
                                                                      x.fst = x.fst ∧
                                                                        y.fst = y.fst ∧
                                                                          I (IntKind.wrap IntKind.i64 (y_1.fst + (1 : Int)), ()) (z_2.fst, ()) ∧
                                                                            μ (IntKind.wrap IntKind.i64 (y_1.fst + (1 : Int)), ()) (z_2.fst, ()) < μ y_1 z)) ∧
                                  (decide (y_1.fst < (↑(List.length y.fst) : Int)) = false → z.fst = foldD x.fst)) ∧
            True
theorem e16 : t16 = Con.vc c16 GL (mkEnv ty [(14, conSem c14)] [] [] [0, 2, 3, 4, 5, 6, 7, 13, 17, 27, 41]) {joins := [8,14]} Tryd.f16.ntmps Tryd.f16.results.toList (bodyOf Tryd.f16) := by kernel_rfl
theorem k16 : t16 := by
  unfold t16
  rintro ⟨l, _⟩ hx hp
  have hw : Kd.wf Kd.str l := hx.1
  have hp : l.length ≤ 100000000 := hp
  try dsimp +instances only [dft_int, dft_sl, dft_str]
  simp only [true_and, and_true, eq_self_iff_true, implies_true, reduceCtorEq, false_implies, true_implies, decide_eq_true_eq, decide_eq_false_iff_not, beq_self_eq_true, Bool.not_eq_true', ne_eq, Decidable.not_not, List.nil_append, List.length_singleton, List.length_cons, List.length_nil, Nat.zero_add, Nat.add_zero, Nat.mul_one, and_self, beq_iff_eq, Bool.not_true, Bool.not_false, Bool.not_eq_false', Bool.cond_false_right, Bool.and_eq_true, imp_self, Bool.not_eq_true, Bool.cond_true_left, Bool.or_eq_true]
  refine ⟨hp, ?_⟩
  rintro ⟨W, _⟩ hWf eW
  have hWl : W.length ≤ 9223372036854775807 := hWf.1
  simp only at eW ⊢
  have hg : ∀ w ∈ W, good w := fun w hw => words_good l [] (fun c hc => by cases hc) w (by rw [← wordsD, ← eW]; exact hw)
  have hlen : ∀ n, (joinF [] (W.take n)).length ≤ l.length := fun n => by
    have h1 := fold_len l
    have h2 : foldD l = joinF (joinF [] (W.take n)) (W.drop n) := by rw [← joinF_app, List.take_append_drop, foldD, ← eW]
    have h3 := joinF_len (W.drop n) (joinF [] (W.take n))
    rw [← h2] at h3
    omega
  refine ⟨fun y z => 0 ≤ y.1 ∧ y.1 ≤ W.length ∧ z.1 = joinF [] (W.take y.1.toNat), fun y _ => ((W.length : Int) - y.1).toNat, ⟨by decide, by omega, rfl⟩, ?_⟩
  rintro ⟨i, _⟩ ⟨b, _⟩ _ _ ⟨i0, i1, eb⟩
  simp only at i0 i1 eb ⊢
  refine ⟨fun hlt => ?_, fun hge => ?_⟩
  rotate_left
  · rw [eb, List.take_of_length_le (by omega), foldD, ← eW]
  have hbl : b.length ≤ l.length := by rw [eb]; exact hlen _
  have hn : joinF [] (W.take (i.toNat + 1)) = (b ++ if b = [] then [] else [32]) ++ (W.getD i.toNat []).map smallD := by
    rw [take_snocA W [] _ (by omega), joinF_app, ← eb]
    rfl
  have hnl := hlen (i.toNat + 1)
  rw [hn] at hnl
  simp only [List.length_append, List.length_map] at hnl
  generalize W.getD i.toNat [] = w at hn hnl ⊢
  refine ⟨fun _ z => z.1 = b ++ if b = [] then [] else [32], ⟨fun hi => ⟨by decide, by omega, by omega, ?_⟩, fun hi => ?_⟩, ?_⟩
  · have : b ≠ [] := by rw [eb]; exact joinF_ne hg (by omega) (by omega)
    rw [if_neg this]
  · have : b = [] := by rw [eb, show i.toNat = 0 by omega]; rfl
    subst this
    rfl
  rintro _ ⟨c, _⟩ _ ec
  simp only at ec ⊢
  have hcl := congrArg List.length ec
  rw [List.length_append] at hcl
  refine ⟨fun y z => 0 ≤ y.1 ∧ y.1 ≤ w.length ∧ z.1 = c ++ (w.take y.1.toNat).map smallD, fun y _ => ((w.length : Int) - y.1).toNat, ⟨by decide, by omega, by simp⟩, ?_⟩
  rintro ⟨j, _⟩ ⟨d, _⟩ _ _ ⟨j0, j1, ed⟩
  simp only at j0 j1 ed ⊢
  have hdl : (d.length : Int) = c.length + j := by
    rw [ed, List.length_append, List.length_map, List.length_take]
    omega
  have e1 : IntKind.wrap .i64 (j + 1) = j + 1 := wrapK _ (by omega) (by omega)
  have e2 : IntKind.wrap .i64 (i + 1) = i + 1 := wrapM _ (by omega) (by omega)
  rw [e1, e2]
  refine ⟨⟨i0, hlt⟩, fun hj => ⟨⟨i0, hlt⟩, ⟨j0, hj⟩, fun u _ => u.1 = smallD (w.getD j.toNat 0), ⟨fun h => ?_, fun h => ?_⟩, ?_⟩, fun hj => ⟨⟨by omega, by omega, ?_⟩, by omega⟩⟩
  · simp only
    rw [smallD, if_pos h]
    generalize w.getD j.toNat 0 = c at h ⊢
    simp [IntKind.wrap, IntKind.signed, IntKind.bits]
    omega
  · simp only
    rw [smallD, if_neg (by simp only [Bool.and_eq_false_iff, decide_eq_false_iff_not] at h; omega)]
  · rintro ⟨s, _⟩ _ _ es
    simp only at es ⊢
    refine ⟨by decide, by omega, by omega, ⟨by omega, by omega, ?_⟩, by omega⟩
    rw [show (j + 1).toNat = j.toNat + 1 by omega, take_snoc w j.toNat (by omega), List.map_append, ed, es, List.append_assoc]
    rfl
  · rw [show (i + 1).toNat = i.toNat + 1 by omega, hn, ed, ec, List.take_of_length_le (by omega)]
theorem h16 : c16.ok Tryd.prog GL 16 := con_ok (H := {joins := [8,14]}) (mkEnv_ok (gl := GL) (l := [(14, conSem c14)]) (q := []) (d := []) _ tyOk (by kernel_rfl) ⟨h14.call, trivial⟩ trivial trivial) (by kernel_rfl) (by kernel_rfl) (Eq.mp e16 k16)

def t17 : Prop :=
  ∀ (x : List Int × List Int × Unit),
    Kd.wf Kd.str x.fst ∧ Kd.wf Kd.str x.snd.fst ∧ True →
      List.length x.fst ≤ (100000000 : Nat) ∧ List.length x.snd.fst ≤ (100000000 : Nat) →
        List.length x.fst ≤ (100000000 : Nat) ∧
          (∀ (y : List Int × Unit),
              Kd.wf Kd.str y.fst ∧ True →
                y.fst = foldD x.fst →
                  List.length x.snd.fst ≤ (100000000 : Nat) ∧
                    (∀ (y_1 : List Int × Unit), Kd.wf Kd.str y_1.fst ∧ True → y_1.fst = foldD x.snd.fst → decide (y.fst = y_1.fst) = decide (foldD x.fst = foldD x.snd.fst)) ∧ True) ∧
            True
theorem e17 : t17 = Con.vc c17 GL (mkEnv ty [(15, conSem c15)] [] [] [0, 1, 4]) {} Tryd.f17.ntmps Tryd.f17.results.toList (bodyOf Tryd.f17) := by kernel_rfl
theorem k17 : t17 := by
  unfold t17
  rintro ⟨l, m, _⟩ hx ⟨h1, h2⟩
  try dsimp +instances only [dft_int, dft_sl, dft_str]
  simp only [true_and, and_true, eq_self_iff_true, implies_true, reduceCtorEq, false_implies, true_implies, decide_eq_true_eq, decide_eq_false_iff_not, beq_self_eq_true, Bool.not_eq_true', ne_eq, Decidable.not_not, List.nil_append, List.length_singleton, List.length_cons, List.length_nil, Nat.zero_add, Nat.add_zero, Nat.mul_one, and_self, beq_iff_eq, Bool.not_true, Bool.not_false, Bool.not_eq_false', Bool.cond_false_right, Bool.and_eq_true, imp_self, Bool.not_eq_true, Bool.cond_true_left, Bool.or_eq_true]
  refine ⟨h1, ?_⟩
  rintro ⟨a, _⟩ _ ea
  refine ⟨h2, ?_⟩
  rintro ⟨b, _⟩ _ eb
  simp only at ea eb ⊢
  subst ea eb
  rfl
theorem h17 : c17.ok Tryd.prog GL 17 := con_ok (H := {}) (mkEnv_ok (gl := GL) (l := [(15, conSem c15)]) (q := []) (d := []) _ tyOk (by kernel_rfl) ⟨h15.call, trivial⟩ trivial trivial) (by kernel_rfl) (by kernel_rfl) (Eq.mp e17 k17)

def t24 : Prop :=
  ∀ (x : Unit), True → True → true = true
theorem e24 : t24 = Con.vc c24 GL (mkEnv ty [] [] [] [0]) {} Tryd.f24.ntmps Tryd.f24.results.toList (bodyOf Tryd.f24) := by kernel_rfl
theorem k24 : t24 := by
  unfold t24
  intro _ _ _; rfl
theorem h24 : c24.ok Tryd.prog GL 24 := con_ok (H := {}) (mkEnv_ok (gl := GL) (l := []) (q := []) (d := []) _ tyOk (by kernel_rfl) trivial trivial trivial) (by kernel_rfl) (by kernel_rfl) (Eq.mp e24 k24)

def t12 : Prop :=
  ∀ (x : Unit),
    True →
      True →
        True ∧
          (∀ (y : Bool × Unit),
              Kd.wf Kd.bool y.fst ∧ True →
                y.fst = mayD (12 : Int) (bs { data := #[(97 : UInt8)] }) →
                  (y.fst = true →
                      True ∧
                        (∀ (y : Bool × Unit),
                            Kd.wf Kd.bool y.fst ∧ True →
                              y.fst = mayD (19 : Int) (bs { data := #[(97 : UInt8)] }) →
                                (y.fst = true →
                                    True ∧
                                      (∀ (y : Bool × Unit),
                                          Kd.wf Kd.bool y.fst ∧ True →
                                            y.fst = mayD (22 : Int) (bs { data := #[(97 : UInt8)] }) →
                                              (y.fst = true →
                                                  (1 : Nat) ≤ (100000000 : Nat) ∧
                                                    (∀ (y : List Int × Unit),
                                                        Kd.wf Kd.str y.fst ∧ True →
                                                          y.fst = foldD (bs { data := #[(65 : UInt8)] }) →
                                                            (decide (y.fst = bs { data := #[(97 : UInt8)] }) = true →
                                                                True ∧ (∀ (y : Bool × Unit), Kd.wf Kd.bool y.fst ∧ True → y.fst = true → y.fst = true) ∧ True) ∧
                                                              (decide (y.fst = bs { data := #[(97 : UInt8)] }) = !true → false = true)) ∧
                                                      True) ∧
                                                (y.fst = !true → false = true)) ∧
                                        True) ∧
                                  (y.fst = !true → false = true)) ∧
                          True) ∧
                    (y.fst = !true → false = true)) ∧
            True
theorem e12 : t12 = Con.vc c12 GL (mkEnv ty [(20, conSem c20), (15, conSem c15), (24, conSem c24)] [] [] [0]) {} Tryd.f12.ntmps Tryd.f12.results.toList (bodyOf Tryd.f12) := by kernel_rfl
theorem k12 : t12 := by
  unfold t12
  rintro _ hx hp
  try dsimp +instances only [dft_int, dft_sl, dft_str]
  simp only [true_and, and_true, eq_self_iff_true, implies_true, reduceCtorEq, false_implies, true_implies, decide_eq_true_eq, decide_eq_false_iff_not, beq_self_eq_true, Bool.not_eq_true', ne_eq, Decidable.not_not, List.nil_append, List.length_singleton, List.length_cons, List.length_nil, Nat.zero_add, Nat.add_zero, Nat.mul_one, and_self, beq_iff_eq, Bool.not_true, Bool.not_false, Bool.not_eq_false', Bool.cond_false_right, Bool.and_eq_true, imp_self, Bool.not_eq_true, Bool.cond_true_left, Bool.or_eq_true]
  have b97 : bs { data := #[97] } = [(97 : Int)] := by decide
  have b65 : bs { data := #[65] } = [(65 : Int)] := by decide
  rw [b97, b65]
  have m12 : mayD 12 [97] = true := by
    rw [mayD, if_neg (by decide), if_pos rfl, vld_a]
    decide
  rintro ⟨a, _⟩ _ ea
  simp only at ea ⊢
  rw [m12] at ea
  subst ea
  refine ⟨fun _ => ?_, fun h => by cases h⟩
  rintro ⟨b, _⟩ _ eb
  have eb : b = true := by rw [show b = mayD 19 [97] from eb]; decide
  subst eb
  refine ⟨fun _ => ?_, fun h => by cases h⟩
  rintro ⟨c, _⟩ _ ec
  have ec : c = true := by rw [show c = mayD 22 [97] from ec]; decide
  subst ec
  refine ⟨fun _ => ⟨by decide, ?_⟩, fun h => by cases h⟩
  rintro ⟨d, _⟩ _ ed hne
  exact hne (by rw [ed]; decide)
theorem h12 : c12.ok Tryd.prog GL 12 := con_ok (H := {}) (mkEnv_ok (gl := GL) (l := [(20, conSem c20), (15, conSem c15), (24, conSem c24)]) (q := []) (d := []) _ tyOk (by kernel_rfl) ⟨h20.call, h15.call, h24.call, trivial⟩ trivial trivial) (by kernel_rfl) (by kernel_rfl) (Eq.mp e12 k12)

def t3 : Prop :=
  ∀ (x : List Int × Unit),
    Kd.wf Kd.str x.fst ∧ True →
      ABulk [AK.dat Kd.str] x ≤ (1048576 : Nat) →
        True ∧
          (∀ (y : Int × Unit),
              Kd.wf (Kd.int IntKind.i64) y.fst ∧ True →
                y.fst = (↑(vld x.fst (0 : Nat)) : Int) →
                  List.length x.fst ≤ (1000000000 : Nat) ∧
                    (∀ (y_1 : Int × Unit),
                        Kd.wf (Kd.int IntKind.i64) y_1.fst ∧ True →
                          y_1.fst = (↑(vld x.fst (0 : Nat)) : Int) →
                            (decide (y.fst = y_1.fst) = true → True ∧ (∀ (y : Bool × Unit), Kd.wf Kd.bool y.fst ∧ True → y.fst = true → y.fst = true) ∧ True) ∧
                              (decide (y.fst = y_1.fst) = !true → false = true)) ∧
                      True) ∧
            True
theorem e3 : t3 = Con.vc c3 GL (mkEnv ty [(10, conSem c10), (11, conSem c11), (12, conSem c12)] [] [] [0, 2]) {} Tryd.f3.ntmps Tryd.f3.results.toList (bodyOf Tryd.f3) := by kernel_rfl
theorem k3 : t3 := by
  unfold t3
  rintro ⟨l, _⟩ hx hp
  have hl : l.length ≤ 1048576 := by
    simp [ABulk, AK.bulk, Kd.bulk, sumOnes] at hp
    omega
  try dsimp +instances only [dft_int, dft_sl, dft_str]
  simp only [true_and, and_true, eq_self_iff_true, implies_true, reduceCtorEq, false_implies, true_implies, decide_eq_true_eq, decide_eq_false_iff_not, beq_self_eq_true, Bool.not_eq_true', ne_eq, Decidable.not_not, List.nil_append, List.length_singleton, List.length_cons, List.length_nil, Nat.zero_add, Nat.add_zero, Nat.mul_one, and_self, beq_iff_eq, Bool.not_true, Bool.not_false, Bool.not_eq_false', Bool.cond_false_right, Bool.and_eq_true, imp_self, Bool.not_eq_true, Bool.cond_true_left, Bool.or_eq_true]
  rintro ⟨a, _⟩ _ ea
  refine ⟨by omega, ?_⟩
  rintro ⟨b, _⟩ _ eb hne
  exact hne (ea.trans eb.symm)
theorem h3 : c3.ok Tryd.prog GL 3 := con_ok (H := {}) (mkEnv_ok (gl := GL) (l := [(10, conSem c10), (11, conSem c11), (12, conSem c12)]) (q := []) (d := []) _ tyOk (by kernel_rfl) ⟨h10.call, h11.call, h12.call, trivial⟩ trivial trivial) (by kernel_rfl) (by kernel_rfl) (Eq.mp e3 k3)

def t5 : Prop :=
  ∀ (x : List Int × List Int × Unit),
    Kd.wf Kd.str x.fst ∧ Kd.wf Kd.str x.snd.fst ∧ True →
      ABulk [AK.dat Kd.str, AK.dat Kd.str] x ≤ (1048576 : Nat) →
        List.length x.fst ≤ (100000000 : Nat) ∧
          (∀ (y : List Int × Unit),
              Kd.wf Kd.str y.fst ∧ True →
                y.fst = foldD x.fst →
                  List.length x.fst ≤ (100000000 : Nat) ∧
                    (∀ (y_1 : List Int × Unit),
                        Kd.wf Kd.str y_1.fst ∧ True →
                          y_1.fst = foldD x.fst →
                            (decide (y.fst = y_1.fst) = true → True) ∧
                              (decide (y.fst = y_1.fst) = true →
                                  (decide (y.fst = y_1.fst) == true) = true ∧
                                    List.length x.snd.fst ≤ (100000000 : Nat) ∧
                                      (∀ (y : List Int × Unit),
                                          Kd.wf Kd.str y.fst ∧ True →
                                            y.fst = foldD x.snd.fst →
                                              List.length x.snd.fst ≤ (100000000 : Nat) ∧
                                                (∀ (y_2 : List Int × Unit),
                                                    Kd.wf Kd.str y_2.fst ∧ True →
                                                      y_2.fst = foldD x.snd.fst →
                                                        (decide (y.fst = y_2.fst) = true → True) ∧
                                                          (decide (y.fst = y_2.fst) = true → True) ∧
                                                            (decide (y.fst = y_2.fst) = true →
                                                                (decide (y.fst = y_2.fst) == true) = true ∧
                                                                  (decide (y.fst = y_2.fst) == true) = true ∧
                                                                    (List.length x.fst ≤ (100000000 : Nat) ∧ List.length x.snd.fst ≤ (100000000 : Nat)) ∧
                                                                      (∀ (y : Bool × Unit),
                                                                          Kd.wf Kd.bool y.fst ∧ True →
                                                                            y.fst = decide (foldD x.fst = foldD x.snd.fst) →
                                                                              List.length x.fst ≤ (100000000 : Nat) ∧
                                                                                (∀ (y_3 : List Int × Unit),
                                                                                    Kd.wf Kd.str y_3.fst ∧ True →
                                                                                      y_3.fst = foldD x.fst →
                                                                                        List.length x.snd.fst ≤ (100000000 : Nat) ∧
                                                                                          (∀ (y_4 : List Int × Unit),
                                                                                              Kd.wf Kd.str y_4.fst ∧ True →
                                                                                                y_4.fst = foldD x.snd.fst →
                                                                                                  (decide (y.fst = decide (y_3.fst = y_4.fst)) = true →
                                                                                                      True ∧ (∀ (y : Bool × Unit), Kd.wf Kd.bool y.fst ∧ True → y.fst = true → y.fst = true) ∧ True) ∧
                                                                                                    (decide (y.fst = decide (y_3.fst = y_4.fst)) = !true → false = true)) ∧
                                                                                            True) ∧
                                                                                  True) ∧
                                                                        True) ∧
                                                              (decide (y.fst = y_2.fst) = !true → false = true)) ∧
                                                  True) ∧
                                        True) ∧
                                (decide (y.fst = y_1.fst) = !true → false = true)) ∧
                      True) ∧
            True
theorem e5 : t5 = Con.vc c5 GL (mkEnv ty [(15, conSem c15), (16, conSem c16), (17, conSem c17), (12, conSem c12)] [] [] [0, 1, 4]) {} Tryd.f5.ntmps Tryd.f5.results.toList (bodyOf Tryd.f5) := by kernel_rfl
theorem k5 : t5 := by
  unfold t5
  rintro ⟨l, m, _⟩ hx hp
  have hl : l.length ≤ 100000000 ∧ m.length ≤ 100000000 := by
    simp [ABulk, AK.bulk, Kd.bulk, sumOnes] at hp
    omega
  try dsimp +instances only [dft_int, dft_sl, dft_str]
  simp only [true_and, and_true, eq_self_iff_true, implies_true, reduceCtorEq, false_implies, true_implies, decide_eq_true_eq, decide_eq_false_iff_not, beq_self_eq_true, Bool.not_eq_true', ne_eq, Decidable.not_not, List.nil_append, List.length_singleton, List.length_cons, List.length_nil, Nat.zero_add, Nat.add_zero, Nat.mul_one, and_self, beq_iff_eq, Bool.not_true, Bool.not_false, Bool.not_eq_false', Bool.cond_false_right, Bool.and_eq_true, imp_self, Bool.not_eq_true, Bool.cond_true_left, Bool.or_eq_true]
  refine ⟨hl.1, ?_⟩
  rintro ⟨a, _⟩ _ ea
  refine ⟨hl.1, ?_⟩
  rintro ⟨a2, _⟩ _ ea2
  simp only at ea ea2 ⊢
  subst ea ea2
  refine ⟨fun _ => ⟨rfl, hl.2, ?_⟩, fun h => h rfl⟩
  rintro ⟨b, _⟩ _ eb
  refine ⟨hl.2, ?_⟩
  rintro ⟨b2, _⟩ _ eb2
  simp only at eb eb2 ⊢
  subst eb eb2
  refine ⟨fun _ => ⟨rfl, rfl, hl, ?_⟩, fun h => h rfl⟩
  rintro ⟨c, _⟩ _ ec
  refine ⟨hl.1, ?_⟩
  rintro ⟨d, _⟩ _ ed
  refine ⟨hl.2, ?_⟩
  rintro ⟨e, _⟩ _ ee hne
  simp only at ec ed ee hne
  subst ec ed ee
  exact hne rfl
theorem h5 : c5.ok Tryd.prog GL 5 := con_ok (H := {}) (mkEnv_ok (gl := GL) (l := [(15, conSem c15), (16, conSem c16), (17, conSem c17), (12, conSem c12)]) (q := []) (d := []) _ tyOk (by kernel_rfl) ⟨h15.call, h16.call, h17.call, h12.call, trivial⟩ trivial trivial) (by kernel_rfl) (by kernel_rfl) (Eq.mp e5 k5)

def t8 : Prop :=
  ∀ (x : Int × List Int × Unit),
    Kd.wf (Kd.int IntKind.i64) x.fst ∧ Kd.wf Kd.str x.snd.fst ∧ True →
      ABulk [AK.dat (Kd.int IntKind.i64), AK.dat Kd.str] x ≤ (1048576 : Nat) →
        True ∧
          (∀ (y : Int × Int × Unit),
              Kd.wf (Kd.int IntKind.i64) y.fst ∧ Kd.wf (Kd.int IntKind.i64) y.snd.fst ∧ True →
                y.fst = (kindD x.snd.fst).fst ∧ y.snd.fst = (kindD x.snd.fst).snd →
                  List.length x.snd.fst ≤ (1000000000 : Nat) ∧
                    (∀ (y_1 : Int × Int × Unit),
                        Kd.wf (Kd.int IntKind.i64) y_1.fst ∧ Kd.wf (Kd.int IntKind.i64) y_1.snd.fst ∧ True →
                          y_1.fst = (kindD x.snd.fst).fst ∧ y_1.snd.fst = (kindD x.snd.fst).snd →
                            True ∧
                              (∀ (y_2 : Bool × Unit),
                                  Kd.wf Kd.bool y_2.fst ∧ True →
                                    y_2.fst = mayD x.fst x.snd.fst →
                                      List.length x.snd.fst ≤ (1000000000 : Nat) ∧
                                        (∀ (y_3 : Bool × Unit),
                                            Kd.wf Kd.bool y_3.fst ∧ True →
                                              y_3.fst = mayD x.fst x.snd.fst →
                                                (decide (y_2.fst = y_3.fst) = true → True) ∧
                                                  (decide (y_2.fst = y_3.fst) = true →
                                                      (decide (y_2.fst = y_3.fst) == true) = true ∧
                                                        True ∧
                                                          (∀ (y_4 : Bool × Unit),
                                                              Kd.wf Kd.bool y_4.fst ∧ True →
                                                                y_4.fst = mayD (12 : Int) x.snd.fst →
                                                                  List.length x.snd.fst ≤ (1000000000 : Nat) ∧
                                                                    (∀ (y_5 : Bool × Unit),
                                                                        Kd.wf Kd.bool y_5.fst ∧ True →
                                                                          y_5.fst = mayD (12 : Int) x.snd.fst →
                                                                            (decide (y_4.fst = y_5.fst) = true → True) ∧
                                                                              (decide (y_4.fst = y_5.fst) = true →
                                                                                  (decide (y_4.fst = y_5.fst) == true) = true ∧
                                                                                    True ∧
                                                                                      (∀ (y_6 : Bool × Unit),
                                                                                          Kd.wf Kd.bool y_6.fst ∧ True →
                                                                                            y_6.fst = mayD (19 : Int) x.snd.fst →
                                                                                              List.length x.snd.fst ≤ (1000000000 : Nat) ∧
                                                                                                (∀ (y_7 : Bool × Unit),
                                                                                                    Kd.wf Kd.bool y_7.fst ∧ True →
                                                                                                      y_7.fst = mayD (19 : Int) x.snd.fst →
                                                                                                        (decide (y_6.fst = y_7.fst) = true → True) ∧
                                                                                                          (decide (y_6.fst = y_7.fst) = true →
                                                                                                              (decide (y_6.fst = y_7.fst) == true) = true ∧
                                                                                                                True ∧
                                                                                                                  (∀ (y_8 : Bool × Unit),
                                                                                                                      Kd.wf Kd.bool y_8.fst ∧ True →
                                                                                                                        y_8.fst = mayD (22 : Int) x.snd.fst →
                                                                                                                          List.length x.snd.fst ≤ (1000000000 : Nat) ∧
                                                                                                                            (∀ (y_9 : Bool × Unit),
                                                                                                                                Kd.wf Kd.bool y_9.fst ∧ True →
                                                                                                                                  y_9.fst = mayD (22 : Int) x.snd.fst →
                                                                                                                                    (decide (y_8.fst = y_9.fst) = true → True) ∧
                                                                                                                                      (decide (y_8.fst = y_9.fst) = true → True) ∧
                                                                                                                                        (decide (y_8.fst = y_9.fst) = true →
                                                                                                                                            (decide (y_8.fst = y_9.fst) == true) = true ∧
                                                                                                                                              (decide (y_8.fst = y_9.fst) == true) = true ∧ True) ∧
                                                                                                                                          (decide (y_8.fst = y_9.fst) = true →
                                                                                                                                              (decide (y_8.fst = y_9.fst) == true) = true) ∧
                                                                                                                                            ((bif decide (y_8.fst = y_9.fst) then decide (y.fst = y_1.fst)
                                                                                                                                                  else false) =
                                                                                                                                                  true →
                                                                                                                                                True) ∧
                                                                                                                                              ((bif decide (y_8.fst = y_9.fst) then
                                                                                                                                                      decide (y.fst = y_1.fst)
                                                                                                                                                    else false) =
                                                                                                                                                    true →
                                                                                                                                                  True) ∧
                                                                                                                                                ((bif decide (y_8.fst = y_9.fst) then
                                                                                                                                                        decide (y.fst = y_1.fst)
                                                                                                                                                      else false) =
                                                                                                                                                      true →
                                                                                                                                                    ((bif decide (y_8.fst = y_9.fst) then
                                                                                                                                                            decide (y.fst = y_1.fst)
                                                                                                                                                          else false) ==
                                                                                                                                                          true) =
                                                                                                                                                        true ∧
                                                                                                                                                      ((bif decide (y_8.fst = y_9.fst) then
                                                                                                                                                              decide (y.fst = y_1.fst)
                                                                                                                                                            else false) ==
                                                                                                                                                            true) =
                                                                                                                                                          true ∧
                                                                                                                                                        True) ∧
                                                                                                                                                  ((bif decide (y_8.fst = y_9.fst) then
                                                                                                                                                          decide (y.fst = y_1.fst)
                                                                                                                                                        else false) =
                                                                                                                                                        true →
                                                                                                                                                      ((bif decide (y_8.fst = y_9.fst) then
                                                                                                                                                            decide (y.fst = y_1.fst)
                                                                                                                                                          else false) ==
                                                                                                                                                          true) =
                                                                                                                                                        true) ∧
                                                                                                                                                    ((bif
                                                                                                                                                              bif decide (y_8.fst = y_9.fst) then
                                                                                                                                                                decide (y.fst = y_1.fst)
                                                                                                                                                              else false then
                                                                                                                                                            decide (y.snd.fst = y_1.snd.fst)
                                                                                                                                                          else false) =
                                                                                                                                                          true →
                                                                                                                                                        True ∧
                                                                                                                                                          (∀ (y : Bool × Unit),
                                                                                                                                                              Kd.wf Kd.bool y.fst ∧ True →
                                                                                                                                                                y.fst = true → y.fst = true) ∧
                                                                                                                                                            True) ∧
                                                                                                                                                      ((bif
                                                                                                                                                              bif decide (y_8.fst = y_9.fst) then
                                                                                                                                                                decide (y.fst = y_1.fst)
                                                                                                                                                              else false then
                                                                                                                                                            decide (y.snd.fst = y_1.snd.fst)
                                                                                                                                                          else false) =
                                                                                                                                                          !true →
                                                                                                                                                        false = true)) ∧
                                                                                                                              True) ∧
                                                                                                                    True) ∧
                                                                                                            (decide (y_6.fst = y_7.fst) = !true → false = true)) ∧
                                                                                                  True) ∧
                                                                                        True) ∧
                                                                                (decide (y_4.fst = y_5.fst) = !true → false = true)) ∧
                                                                      True) ∧
                                                            True) ∧
                                                    (decide (y_2.fst = y_3.fst) = !true → false = true)) ∧
                                          True) ∧
                                True) ∧
                      True) ∧
            True
theorem e8 : t8 = Con.vc c8 GL (mkEnv ty [(18, conSem c18), (19, conSem c19), (20, conSem c20), (21, conSem c21), (12, conSem c12)] [] [] [0, 1, 4, 5, 6, 7, 8]) {} Tryd.f8.ntmps Tryd.f8.results.toList (bodyOf Tryd.f8) := by kernel_rfl
theorem k8 : t8 := by
  unfold t8
  rintro ⟨k, m, _⟩ hx hp
  have hl : m.length ≤ 1000000000 := by
    simp [ABulk, AK.bulk, Kd.bulk, sumOnes] at hp
    omega
  try dsimp +instances only [dft_int, dft_sl, dft_str]
  simp only [true_and, and_true, eq_self_iff_true, implies_true, reduceCtorEq, false_implies, true_implies, decide_eq_true_eq, decide_eq_false_iff_not, beq_self_eq_true, Bool.not_eq_true', ne_eq, Decidable.not_not, List.nil_append, List.length_singleton, List.length_cons, List.length_nil, Nat.zero_add, Nat.add_zero, Nat.mul_one, and_self, beq_iff_eq, Bool.not_true, Bool.not_false, Bool.not_eq_false', Bool.cond_false_right, Bool.and_eq_true, imp_self, Bool.not_eq_true, Bool.cond_true_left, Bool.or_eq_true]
  rintro ⟨a, b, _⟩ _ ⟨e1, e2⟩
  refine ⟨hl, ?_⟩
  rintro ⟨a2, b2, _⟩ _ ⟨e3, e4⟩ ⟨c, _⟩ _ e5
  refine ⟨hl, ?_⟩
  rintro ⟨c2, _⟩ _ e6
  simp only at e1 e2 e3 e4 e5 e6 ⊢
  subst e1 e2 e3 e4 e5 e6
  refine ⟨fun _ => ⟨rfl, ?_⟩, fun h => h rfl⟩
  rintro ⟨d, _⟩ _ e7
  refine ⟨hl, ?_⟩
  rintro ⟨d2, _⟩ _ e8
  simp only at e7 e8 ⊢
  subst e7 e8
  refine ⟨fun _ => ⟨rfl, ?_⟩, fun h => h rfl⟩
  rintro ⟨e, _⟩ _ e9
  refine ⟨hl, ?_⟩
  rintro ⟨f, _⟩ _ e10
  simp only at e9 e10 ⊢
  subst e9 e10
  refine ⟨fun _ => ⟨rfl, ?_⟩, fun h => h rfl⟩
  rintro ⟨g, _⟩ _ e11
  refine ⟨hl, ?_⟩
  rintro ⟨g2, _⟩ _ e12 h
  simp only at e11 e12 h
  subst e11 e12
  simp at h
theorem h8 : c8.ok Tryd.prog GL 8 := con_ok (H := {}) (mkEnv_ok (gl := GL) (l := [(18, conSem c18), (19, conSem c19), (20, conSem c20), (21, conSem c21), (12, conSem c12)]) (q := []) (d := []) _ tyOk (by kernel_rfl) ⟨h18.call, h19.call, h20.call, h21.call, h12.call, trivial⟩ trivial trivial) (by kernel_rfl) (by kernel_rfl) (Eq.mp e8 k8)

def t4 : Prop :=
  ∀ (x : List Int × Int × Unit),
    Kd.wf Kd.str x.fst ∧ Kd.wf (Kd.int IntKind.i64) x.snd.fst ∧ True →
      ABulk [AK.dat Kd.str, AK.dat (Kd.int IntKind.i64)] x ≤ (1048576 : Nat) →
        List.length [SV.dat (Kd.int IntKind.i64) x.snd.fst] ≤ (65536 : Nat) ∧
          (1 : Nat) ≤ (65536 : Nat) ∧
            List.length [SV.dat Kd.str x.fst] ≤ (65536 : Nat) ∧
              List.length x.fst ≤ (100000000 : Nat) ∧
                (∀ (y : List (List Int) × Unit),
                    Kd.wf (Kd.sl Kd.str) y.fst ∧ True →
                      y.fst = wordsD x.fst →
                        (1 : Nat) ≤ (65536 : Nat) ∧
                          (1 : Nat) ≤ (65536 : Nat) ∧
                            ∃ (J : Unit → (Int × Unit) × (Bool × Unit) × (List Int × Unit) × List (List Int) × Unit × (Int × Unit) × Unit → Prop),
                              (∃ (I : Int × Unit → (Int × Unit) × (Bool × Unit) × (List Int × Unit) × List (List Int) × Unit × (Int × Unit) × Unit → Prop),
                                  ∃ (μ : Int × Unit → (Int × Unit) × (Bool × Unit) × (List Int × Unit) × List (List Int) × Unit × (Int × Unit) × Unit → Nat),
                                    (Value.bool false = Value.bool false ∧
                                        x.fst = x.fst ∧ x.snd.fst = x.snd.fst ∧ I ((0 : Int), ()) ((x.snd.fst, ()), (false, ()), (x.fst, ()), y.fst, (), ((0 : Int), ()), ())) ∧
                                      ∀ (y : Int × Unit) (z : (Int × Unit) × (Bool × Unit) × (List Int × Unit) × List (List Int) × Unit × (Int × Unit) × Unit),
                                        Kd.wf (Kd.int IntKind.i64) y.fst ∧ True →
                                          (Kd.wf (Kd.int IntKind.i64) z.fst.fst ∧ True) ∧
                                              (Kd.wf Kd.bool z.snd.fst.fst ∧ True) ∧
                                                (Kd.wf Kd.str z.snd.snd.fst.fst ∧ True) ∧
                                                  Kd.wf (Kd.sl Kd.str) z.snd.snd.snd.fst ∧ True ∧ (Kd.wf (Kd.int IntKind.i64) z.snd.snd.snd.snd.snd.fst.fst ∧ True) ∧ True →
                                            I y z →
                                              (decide (y.fst < (↑(List.length z.snd.snd.fst.fst) : Int)) = true →
                                                  ((0 : Int) ≤ y.fst ∧ y.fst ≤ (↑(List.length z.snd.snd.fst.fst) : Int)) ∧
                                                    True ∧
                                                      (∀ (y_1 : Int × Unit),
                                                          Kd.wf (Kd.int IntKind.i64) y_1.fst ∧ True →
                                                            y_1.fst = idxB (List.drop (Int.toNat y.fst) z.snd.snd.fst.fst) (32 : Int) →
                                                              ∃ (J_1 : Int × Unit → Unit × Unit × Unit × Unit × Unit × Unit → Prop),
                                                                ((decide (y_1.fst < (0 : Int)) = true →
                                                                      Value.bool true = Value.bool true ∧
                                                                        y.fst = y.fst ∧
                                                                          z.fst.fst = z.fst.fst ∧
                                                                            z.snd.fst.fst = z.snd.fst.fst ∧
                                                                              z.snd.snd.fst.fst = z.snd.snd.fst.fst ∧
                                                                                z.snd.snd.snd.fst = z.snd.snd.snd.fst ∧
                                                                                  z.snd.snd.snd.snd.snd.fst.fst = z.snd.snd.snd.snd.snd.fst.fst ∧
                                                                                    Value.bool false = Value.bool false ∧
                                                                                      x.fst = x.fst ∧
                                                                                        x.snd.fst = x.snd.fst ∧
                                                                                          J_1 (IntKind.wrap IntKind.i64 ((↑(List.length z.snd.snd.fst.fst) : Int) - y.fst), ())
                                                                                            ((), (), (), (), (), ())) ∧
                                                                    (decide (y_1.fst < (0 : Int)) = false →
                                                                      Value.bool true = Value.bool true ∧
                                                                        y.fst = y.fst ∧
                                                                          z.fst.fst = z.fst.fst ∧
                                                                            z.snd.fst.fst = z.snd.fst.fst ∧
                                                                              z.snd.snd.fst.fst = z.snd.snd.fst.fst ∧
                                                                                z.snd.snd.snd.fst = z.snd.snd.snd.fst ∧
                                                                                  z.snd.snd.snd.snd.snd.fst.fst = z.snd.snd.snd.snd.snd.fst.fst ∧
                                                                                    Value.bool false = Value.bool false ∧
                                                                                      x.fst = x.fst ∧ x.snd.fst = x.snd.fst ∧ J_1 (y_1.fst, ()) ((), (), (), (), (), ()))) ∧
                                                                  ∀ (u : Int × Unit) (z_1 : Unit × Unit × Unit × Unit × Unit × Unit),
                                                                    Kd.wf (Kd.int IntKind.i64) u.fst ∧ True →
                                                                      True ∧ True ∧ True ∧ True ∧ True ∧ True →
                                                                        J_1 u z_1 →
                                                                          (decide ((0 : Int) < u.fst) = true → True) ∧
                                                                            (decide ((0 : Int) < u.fst) = true → True) ∧
                                                                              (decide ((0 : Int) < u.fst) = true → True) ∧
                                                                                (decide ((0 : Int) < u.fst) = true → True) ∧
                                                                                  (decide ((0 : Int) < u.fst) = true → True) ∧
                                                                                    (decide ((0 : Int) < u.fst) = true →
                                                                                        (decide ((0 : Int) < u.fst) == true) = true ∧ (decide ((0 : Int) < u.fst) == true) = true ∧ True) ∧
                                                                                      (decide ((0 : Int) < u.fst) = true →
                                                                                          (decide ((0 : Int) < u.fst) == true) = true ∧
                                                                                            (decide ((0 : Int) < u.fst) == true) = true ∧
                                                                                              (decide ((0 : Int) < u.fst) == true) = true ∧
                                                                                                ((0 : Int) ≤ y.fst ∧
                                                                                                    y.fst ≤ IntKind.wrap IntKind.i64 (y.fst + u.fst) ∧
                                                                                                      IntKind.wrap IntKind.i64 (y.fst + u.fst) ≤ (↑(List.length z.snd.snd.fst.fst) : Int)) ∧
                                                                                                  True) ∧
                                                                                        (decide ((0 : Int) < u.fst) = true →
                                                                                            (decide ((0 : Int) < u.fst) == true) = true ∧
                                                                                              (decide ((0 : Int) < u.fst) == true) = true ∧
                                                                                                (decide (z.snd.snd.snd.snd.snd.fst.fst = z.fst.fst) = true →
                                                                                                    Value.bool false = Value.bool false ∧
                                                                                                      x.fst = x.fst ∧
                                                                                                        x.snd.fst = x.snd.fst ∧
                                                                                                          J ()
                                                                                                            ((z.fst.fst, ()), (z.snd.fst.fst, ()), (z.snd.snd.fst.fst, ()), z.snd.snd.snd.fst, (),
                                                                                                              (z.snd.snd.snd.snd.snd.fst.fst, ()), ())) ∧
                                                                                                  (decide (z.snd.snd.snd.snd.snd.fst.fst = z.fst.fst) = false →
                                                                                                    Value.bool false = Value.bool false ∧
                                                                                                      x.fst = x.fst ∧
                                                                                                        x.snd.fst = x.snd.fst ∧
                                                                                                          I (IntKind.wrap IntKind.i64 (y.fst + IntKind.wrap IntKind.i64 (u.fst + (1 : Int))), ())
                                                                                                              ((z.fst.fst, ()), (z.snd.fst.fst, ()), (z.snd.snd.fst.fst, ()), z.snd.snd.snd.fst, (),
                                                                                                                (IntKind.wrap IntKind.i64 (z.snd.snd.snd.snd.snd.fst.fst + (1 : Int)), ()), ()) ∧
                                                                                                            μ (IntKind.wrap IntKind.i64 (y.fst + IntKind.wrap IntKind.i64 (u.fst + (1 : Int))), ())
                                                                                                                ((z.fst.fst, ()), (z.snd.fst.fst, ()), (z.snd.snd.fst.fst, ()), z.snd.snd.snd.fst, (),
                                                                                                                  (IntKind.wrap IntKind.i64 (z.snd.snd.snd.snd.snd.fst.fst + (1 : Int)), ()), ()) <
                                                                                                              μ y z)) ∧
                                                                                          (decide ((0 : Int) < u.fst) = !true →
                                                                                            Value.bool false = Value.bool false ∧
                                                                                              x.fst = x.fst ∧
                                                                                                x.snd.fst = x.snd.fst ∧
                                                                                                  I (IntKind.wrap IntKind.i64 (y.fst + IntKind.wrap IntKind.i64 (u.fst + (1 : Int))), ())
                                                                                                      ((z.fst.fst, ()), (z.snd.fst.fst, ()), (z.snd.snd.fst.fst, ()), z.snd.snd.snd.fst, (),
                                                                                                        (z.snd.snd.snd.snd.snd.fst.fst, ()), ()) ∧
                                                                                                    μ (IntKind.wrap IntKind.i64 (y.fst + IntKind.wrap IntKind.i64 (u.fst + (1 : Int))), ())
                                                                                                        ((z.fst.fst, ()), (z.snd.fst.fst, ()), (z.snd.snd.fst.fst, ()), z.snd.snd.snd.fst, (),
                                                                                                          (z.snd.snd.snd.snd.snd.fst.fst, ()), ()) <
                                                                                                      μ y z)) ∧
                                                        True) ∧
                                                (decide (y.fst < (↑(List.length z.snd.snd.fst.fst) : Int)) = false →
                                                  Value.bool false = Value.bool false ∧
                                                    x.fst = x.fst ∧
                                                      x.snd.fst = x.snd.fst ∧
                                                        J () ((z.fst.fst, ()), (z.snd.fst.fst, ()), (z.snd.snd.fst.fst, ()), z.snd.snd.snd.fst, (), (z.snd.snd.snd.snd.snd.fst.fst, ()), ()))) ∧
                                ∀ (u : Unit) (z : (Int × Unit) × (Bool × Unit) × (List Int × Unit) × List (List Int) × Unit × (Int × Unit) × Unit),
                                  True →
                                    (Kd.wf (Kd.int IntKind.i64) z.fst.fst ∧ True) ∧
                                        (Kd.wf Kd.bool z.snd.fst.fst ∧ True) ∧
                                          (Kd.wf Kd.str z.snd.snd.fst.fst ∧ True) ∧
                                            Kd.wf (Kd.sl Kd.str) z.snd.snd.snd.fst ∧ True ∧ (Kd.wf (Kd.int IntKind.i64) z.snd.snd.snd.snd.snd.fst.fst ∧ True) ∧ True →
                                      J u z →
                                        ∃ (I : Int × Unit → (Int × Unit) × (Bool × Unit) × (List Int × Unit) × List (List Int) × Unit × (Int × Unit) × Unit → Prop),
                                          ∃ (μ : Int × Unit → (Int × Unit) × (Bool × Unit) × (List Int × Unit) × List (List Int) × Unit × (Int × Unit) × Unit → Nat),
                                            (Value.bool false = Value.bool false ∧
                                                x.fst = x.fst ∧
                                                  x.snd.fst = x.snd.fst ∧ I ((0 : Int), ()) ((z.fst.fst, ()), (z.snd.fst.fst, ()), (z.snd.snd.fst.fst, ()), z.snd.snd.snd.fst, (), ((0 : Int), ()), ())) ∧
                                              ∀ (y : Int × Unit) (z : (Int × Unit) × (Bool × Unit) × (List Int × Unit) × List (List Int) × Unit × (Int × Unit) × Unit),
                                                Kd.wf (Kd.int IntKind.i64) y.fst ∧ True →
                                                  (Kd.wf (Kd.int IntKind.i64) z.fst.fst ∧ True) ∧
                                                      (Kd.wf Kd.bool z.snd.fst.fst ∧ True) ∧
                                                        (Kd.wf Kd.str z.snd.snd.fst.fst ∧ True) ∧
                                                          Kd.wf (Kd.sl Kd.str) z.snd.snd.snd.fst ∧ True ∧ (Kd.wf (Kd.int IntKind.i64) z.snd.snd.snd.snd.snd.fst.fst ∧ True) ∧ True →
                                                    I y z →
                                                      (decide (y.fst < (↑(List.length z.snd.snd.fst.fst) : Int)) = true →
                                                          ((0 : Int) ≤ y.fst ∧ y.fst ≤ (↑(List.length z.snd.snd.fst.fst) : Int)) ∧
                                                            True ∧
                                                              (∀ (y_1 : Int × Unit),
                                                                  Kd.wf (Kd.int IntKind.i64) y_1.fst ∧ True →
                                                                    y_1.fst = idxB (List.drop (Int.toNat y.fst) z.snd.snd.fst.fst) (32 : Int) →
                                                                      ∃ (J : Int × Unit → Unit × Unit × Unit × Unit × Unit × Unit → Prop),
                                                                        ((decide (y_1.fst < (0 : Int)) = true →
                                                                              Value.bool true = Value.bool true ∧
                                                                                y.fst = y.fst ∧
                                                                                  z.fst.fst = z.fst.fst ∧
                                                                                    z.snd.fst.fst = z.snd.fst.fst ∧
                                                                                      z.snd.snd.fst.fst = z.snd.snd.fst.fst ∧
                                                                                        z.snd.snd.snd.fst = z.snd.snd.snd.fst ∧
                                                                                          z.snd.snd.snd.snd.snd.fst.fst = z.snd.snd.snd.snd.snd.fst.fst ∧
                                                                                            Value.bool false = Value.bool false ∧
                                                                                              x.fst = x.fst ∧
                                                                                                x.snd.fst = x.snd.fst ∧
                                                                                                  J (IntKind.wrap IntKind.i64 ((↑(List.length z.snd.snd.fst.fst) : Int) - y.fst), ())
                                                                                                    ((), (), (), (), (), ())) ∧
                                                                            (decide (y_1.fst < (0 : Int)) = false →
                                                                              Value.bool true = Value.bool true ∧
                                                                                y.fst = y.fst ∧
                                                                                  z.fst.fst = z.fst.fst ∧
                                                                                    z.snd.fst.fst = z.snd.fst.fst ∧
                                                                                      z.snd.snd.fst.fst = z.snd.snd.fst.fst ∧
                                                                                        z.snd.snd.snd.fst = z.snd.snd.snd.fst ∧
                                                                                          z.snd.snd.snd.snd.snd.fst.fst = z.snd.snd.snd.snd.snd.fst.fst ∧
                                                                                            Value.bool false = Value.bool false ∧
                                                                                              x.fst = x.fst ∧ x.snd.fst = x.snd.fst ∧ J (y_1.fst, ()) ((), (), (), (), (), ()))) ∧
                                                                          ∀ (u : Int × Unit) (z_1 : Unit × Unit × Unit × Unit × Unit × Unit),
                                                                            Kd.wf (Kd.int IntKind.i64) u.fst ∧ True →
                                                                              True ∧ True ∧ True ∧ True ∧ True ∧ True →
                                                                                J u z_1 →
                                                                                  (decide ((0 : Int) < u.fst) = true → True) ∧
                                                                                    (decide ((0 : Int) < u.fst) = true → True) ∧
                                                                                      (decide ((0 : Int) < u.fst) = true → True) ∧
                                                                                        (decide ((0 : Int) < u.fst) = true → True) ∧
                                                                                          (decide ((0 : Int) < u.fst) = true → True) ∧
                                                                                            (decide ((0 : Int) < u.fst) = true →
                                                                                                (decide ((0 : Int) < u.fst) == true) = true ∧ (decide ((0 : Int) < u.fst) == true) = true ∧ True) ∧
                                                                                              (decide ((0 : Int) < u.fst) = true →
                                                                                                  (decide ((0 : Int) < u.fst) == true) = true ∧
                                                                                                    (decide ((0 : Int) < u.fst) == true) = true ∧
                                                                                                      (decide ((0 : Int) < u.fst) == true) = true ∧
                                                                                                        ((0 : Int) ≤ y.fst ∧
                                                                                                            y.fst ≤ IntKind.wrap IntKind.i64 (y.fst + u.fst) ∧
                                                                                                              IntKind.wrap IntKind.i64 (y.fst + u.fst) ≤ (↑(List.length z.snd.snd.fst.fst) : Int)) ∧
                                                                                                          True) ∧
                                                                                                (decide ((0 : Int) < u.fst) = true →
                                                                                                    (decide ((0 : Int) < u.fst) == true) = true ∧
                                                                                                      (decide ((0 : Int) < u.fst) == true) = true ∧
                                                                                                        (decide ((↑(List.length z.snd.snd.snd.fst) : Int) ≤ z.snd.snd.snd.snd.snd.fst.fst) = false →
                                                                                                            True) ∧
                                                                                                          (decide ((↑(List.length z.snd.snd.snd.fst) : Int) ≤ z.snd.snd.snd.snd.snd.fst.fst) = false →
                                                                                                              True) ∧
                                                                                                            (decide ((↑(List.length z.snd.snd.snd.fst) : Int) ≤ z.snd.snd.snd.snd.snd.fst.fst) = false →
                                                                                                                True) ∧
                                                                                                              (decide ((↑(List.length z.snd.snd.snd.fst) : Int) ≤ z.snd.snd.snd.snd.snd.fst.fst) = false →
                                                                                                                  (decide ((↑(List.length z.snd.snd.snd.fst) : Int) ≤ z.snd.snd.snd.snd.snd.fst.fst) ==
                                                                                                                        false) =
                                                                                                                      true ∧
                                                                                                                    (decide ((↑(List.length z.snd.snd.snd.fst) : Int) ≤ z.snd.snd.snd.snd.snd.fst.fst) ==
                                                                                                                          false) =
                                                                                                                        true ∧
                                                                                                                      ((0 : Int) ≤ z.snd.snd.snd.snd.snd.fst.fst ∧
                                                                                                                          z.snd.snd.snd.snd.snd.fst.fst < (↑(List.length z.snd.snd.snd.fst) : Int)) ∧
                                                                                                                        True) ∧
                                                                                                                (decide ((↑(List.length z.snd.snd.snd.fst) : Int) ≤ z.snd.snd.snd.snd.snd.fst.fst) =
                                                                                                                      false →
                                                                                                                    (decide ((↑(List.length z.snd.snd.snd.fst) : Int) ≤ z.snd.snd.snd.snd.snd.fst.fst) ==
                                                                                                                          false) =
                                                                                                                        true ∧
                                                                                                                      True) ∧
                                                                                                                  (decide ((↑(List.length z.snd.snd.snd.fst) : Int) ≤ z.snd.snd.snd.snd.snd.fst.fst) =
                                                                                                                        false →
                                                                                                                      (decide
                                                                                                                              ((↑(List.length z.snd.snd.snd.fst) : Int) ≤
                                                                                                                                z.snd.snd.snd.snd.snd.fst.fst) ==
                                                                                                                            false) =
                                                                                                                          true ∧
                                                                                                                        (decide
                                                                                                                                ((↑(List.length z.snd.snd.snd.fst) : Int) ≤
                                                                                                                                  z.snd.snd.snd.snd.snd.fst.fst) ==
                                                                                                                              false) =
                                                                                                                            true ∧
                                                                                                                          True) ∧
                                                                                                                    (decide ((↑(List.length z.snd.snd.snd.fst) : Int) ≤ z.snd.snd.snd.snd.snd.fst.fst) =
                                                                                                                          false →
                                                                                                                        (decide
                                                                                                                              ((↑(List.length z.snd.snd.snd.fst) : Int) ≤
                                                                                                                                z.snd.snd.snd.snd.snd.fst.fst) ==
                                                                                                                            false) =
                                                                                                                          true) ∧
                                                                                                                      ((bif
                                                                                                                                decide
                                                                                                                                  ((↑(List.length z.snd.snd.snd.fst) : Int) ≤
                                                                                                                                    z.snd.snd.snd.snd.snd.fst.fst) then
                                                                                                                              true
                                                                                                                            else
                                                                                                                              decide
                                                                                                                                (List.drop (Int.toNat y.fst)
                                                                                                                                    (List.take (Int.toNat (IntKind.wrap IntKind.i64 (y.fst + u.fst)))
                                                                                                                                      z.snd.snd.fst.fst) ≠
                                                                                                                                  List.getD z.snd.snd.snd.fst (Int.toNat z.snd.snd.snd.snd.snd.fst.fst)
                                                                                                                                    (Kd.dft Kd.str))) =
                                                                                                                            true →
                                                                                                                          false = true) ∧
                                                                                                                        ((bif
                                                                                                                                decide
                                                                                                                                  ((↑(List.length z.snd.snd.snd.fst) : Int) ≤
                                                                                                                                    z.snd.snd.snd.snd.snd.fst.fst) then
                                                                                                                              true
                                                                                                                            else
                                                                                                                              decide
                                                                                                                                (List.drop (Int.toNat y.fst)
                                                                                                                                    (List.take (Int.toNat (IntKind.wrap IntKind.i64 (y.fst + u.fst)))
                                                                                                                                      z.snd.snd.fst.fst) ≠
                                                                                                                                  List.getD z.snd.snd.snd.fst (Int.toNat z.snd.snd.snd.snd.snd.fst.fst)
                                                                                                                                    (Kd.dft Kd.str))) =
                                                                                                                            false →
                                                                                                                          Value.bool false = Value.bool false ∧
                                                                                                                            x.fst = x.fst ∧
                                                                                                                              x.snd.fst = x.snd.fst ∧
                                                                                                                                I
                                                                                                                                    (IntKind.wrap IntKind.i64
                                                                                                                                        (y.fst + IntKind.wrap IntKind.i64 (u.fst + (1 : Int))),
                                                                                                                                      ())
                                                                                                                                    ((z.fst.fst, ()), (z.snd.fst.fst, ()), (z.snd.snd.fst.fst, ()),
                                                                                                                                      z.snd.snd.snd.fst, (),
                                                                                                                                      (IntKind.wrap IntKind.i64
                                                                                                                                          (z.snd.snd.snd.snd.snd.fst.fst + (1 : Int)),
                                                                                                                                        ()),
                                                                                                                                      ()) ∧
                                                                                                                                  μ
                                                                                                                                      (IntKind.wrap IntKind.i64
                                                                                                                                          (y.fst + IntKind.wrap IntKind.i64 (u.fst + (1 : Int))),
                                                                                                                                        ())
                                                                                                                                      ((z.fst.fst, ()), (z.snd.fst.fst, ()), (z.snd.snd.fst.fst, ()),
                                                                                                                                        z.snd.snd.snd.fst, (),
                                                                                                                                        (IntKind.wrap IntKind.i64
                                                                                                                                            (z.snd.snd.snd.snd.snd.fst.fst + (1 : Int)),
                                                                                                                                          ()),
                                                                                                                                        ()) <
                                                                                                                                    μ y z)) ∧
                                                                                                  (decide ((0 : Int) < u.fst) = !true →
                                                                                                    Value.bool false = Value.bool false ∧
                                                                                                      x.fst = x.fst ∧
                                                                                                        x.snd.fst = x.snd.fst ∧
                                                                                                          I (IntKind.wrap IntKind.i64 (y.fst + IntKind.wrap IntKind.i64 (u.fst + (1 : Int))), ())
                                                                                                              ((z.fst.fst, ()), (z.snd.fst.fst, ()), (z.snd.snd.fst.fst, ()), z.snd.snd.snd.fst, (),
                                                                                                                (z.snd.snd.snd.snd.snd.fst.fst, ()), ()) ∧
                                                                                                            μ (IntKind.wrap IntKind.i64 (y.fst + IntKind.wrap IntKind.i64 (u.fst + (1 : Int))), ())
                                                                                                                ((z.fst.fst, ()), (z.snd.fst.fst, ()), (z.snd.snd.fst.fst, ()), z.snd.snd.snd.fst, (),
                                                                                                                  (z.snd.snd.snd.snd.snd.fst.fst, ()), ()) <
                                                                                                              μ y z)) ∧
                                                                True) ∧
                                                        (decide (y.fst < (↑(List.length z.snd.snd.fst.fst) : Int)) = false →
                                                          (decide (z.snd.snd.snd.snd.snd.fst.fst = (↑(List.length z.snd.snd.snd.fst) : Int)) = true →
                                                              True ∧ (∀ (y : Bool × Unit), Kd.wf Kd.bool y.fst ∧ True → y.fst = true → y.fst = true) ∧ True) ∧
                                                            (decide (z.snd.snd.snd.snd.snd.fst.fst = (↑(List.length z.snd.snd.snd.fst) : Int)) = !true → false = true))) ∧
                  True
theorem e4 : t4 = Con.vc c4 GL (mkEnv ty [(13, i13), (14, conSem c14), (12, conSem c12)] [(25, i25)] [] [0, 1, 3, 4, 5, 6, 7, 8, 12, 15, 19, 22, 23, 35]) {joins := [9]} Tryd.f4.ntmps Tryd.f4.results.toList (bodyOf Tryd.f4) := by kernel_rfl
theorem k4 : t4 := by
  unfold t4
  rintro ⟨l, v, _⟩ hx hp
  have hw : Kd.wf Kd.str l := hx.1
  have hp : l.length ≤ 2000000 := by
    simp [ABulk, AK.bulk, Kd.bulk, sumOnes] at hp
    omega
  try dsimp +instances only [dft_int, dft_sl, dft_str]
  simp only [true_and, and_true, eq_self_iff_true, implies_true, reduceCtorEq, false_implies, true_implies, decide_eq_true_eq, decide_eq_false_iff_not, beq_self_eq_true, Bool.not_eq_true', ne_eq, Decidable.not_not, List.nil_append, List.length_singleton, List.length_cons, List.length_nil, Nat.zero_add, Nat.add_zero, Nat.mul_one, and_self, beq_iff_eq, Bool.not_true, Bool.not_false, Bool.not_eq_false', Bool.cond_false_right, Bool.and_eq_true, imp_self, Bool.not_eq_true, Bool.cond_true_left, Bool.or_eq_true]
  refine ⟨by decide, by decide, by decide, by omega, ?_⟩
  rintro ⟨W, _⟩ _ eW
  simp only at eW ⊢
  refine ⟨by decide, by decide, fun _ z => z.2.2.1.1 = l ∧ z.2.2.2.1 = W, ⟨fun y z => 0 ≤ y.1 ∧ y.1 ≤ l.length + 1 ∧ z.2.2.1.1 = l ∧ z.2.2.2.1 = W ∧ 0 ≤ z.2.2.2.2.2.1.1 ∧ z.2.2.2.2.2.1.1 ≤ y.1, fun y _ => ((l.length : Int) + 1 - y.1).toNat, ⟨by decide, by omega, by trivial, by trivial, Int.le_refl 0, Int.le_refl 0⟩, ?_⟩, ?_⟩
  · rintro ⟨i, _⟩ ⟨⟨a1, _⟩, ⟨a2, _⟩, ⟨m, _⟩, V, _, ⟨n, _⟩, _⟩ _ _ ⟨i0, i1, em, eV, n0, n1⟩
    simp only at i0 i1 em eV n0 n1 ⊢
    subst em
    refine ⟨fun hlt => ⟨⟨by omega, by omega⟩, ?_⟩, fun hge => ⟨by trivial, eV⟩⟩
    rintro ⟨k, _⟩ _ ek
    simp only at ek ⊢
    have hdl : (m.drop i.toNat).length = m.length - i.toNat := by simp
    refine ⟨fun u _ => idxB (m.drop i.toNat) 32 < 0 ∧ u.1 = (m.drop i.toNat).length ∨ 0 ≤ idxB (m.drop i.toNat) 32 ∧ u.1 = idxB (m.drop i.toNat) 32, ⟨fun h => .inl ⟨by omega, ?_⟩, fun h => .inr ⟨by omega, ek⟩⟩, ?_⟩
    · rw [hdl]
      have : IntKind.wrap .i64 ((m.length : Int) - i) = m.length - i := wrapK _ (by omega) (by omega)
      rw [this]; omega
    rintro ⟨t, _⟩ _ _ hJ
    obtain ⟨t0, t1, _⟩ := idx_split hJ
    clear hJ
    simp only at t0 t1 ⊢
    rw [hdl] at t1
    have e1 : IntKind.wrap .i64 (t + 1) = t + 1 := wrapK _ (by omega) (by omega)
    have e2 : IntKind.wrap .i64 (i + (t + 1)) = i + (t + 1) := wrapK _ (by omega) (by omega)
    have e3 : IntKind.wrap .i64 (i + t) = i + t := wrapK _ (by omega) (by omega)
    have e4 : IntKind.wrap .i64 (n + 1) = n + 1 := wrapK _ (by omega) (by omega)
    rw [e1, e2, e3, e4]
    refine ⟨fun h => ⟨h, h, h, i0, by omega, by omega⟩, fun h => ⟨h, h, fun h2 => ⟨by trivial, eV⟩, fun h2 => ⟨⟨by omega, by omega, by trivial, eV, by omega, by omega⟩, by omega⟩⟩, fun h => ⟨⟨by omega, by omega, by trivial, eV, by omega, by omega⟩, by omega⟩⟩
  rintro _ ⟨⟨a1, _⟩, ⟨a2, _⟩, ⟨m, _⟩, V, _, ⟨n, _⟩, _⟩ _ ⟨em, eV⟩
  simp only at em eV ⊢
  subst em eV
  refine ⟨fun y z => 0 ≤ y.1 ∧ y.1 ≤ m.length + 1 ∧ z.2.2.1.1 = m ∧ z.2.2.2.1 = V ∧ 0 ≤ z.2.2.2.2.2.1.1 ∧ z.2.2.2.2.2.1.1 ≤ V.length ∧ z.2.2.2.2.2.1.1 ≤ y.1 ∧ V.drop z.2.2.2.2.2.1.1.toNat = wordsA [] (m.drop y.1.toNat), fun y _ => ((m.length : Int) + 1 - y.1).toNat, ⟨by decide, by omega, by trivial, by trivial, Int.le_refl 0, Int.natCast_nonneg _, Int.le_refl 0, eW⟩, ?_⟩
  rintro ⟨i, _⟩ ⟨⟨a1, _⟩, ⟨a2, _⟩, ⟨m2, _⟩, V2, _, ⟨n, _⟩, _⟩ _ _ ⟨i0, i1, em, eV, n0, n1, n2, hd⟩
  simp only at i0 i1 em eV n0 n1 n2 hd ⊢
  subst em eV
  refine ⟨fun hlt => ⟨⟨i0, by omega⟩, ?_⟩, fun hge => ?_⟩
  rotate_left
  · intro hne
    rw [List.drop_of_length_le (by omega : m2.length ≤ i.toNat), words_end] at hd
    have := congrArg List.length hd
    simp at this
    omega
  rintro ⟨k, _⟩ _ ek
  simp only at ek ⊢
  have hdl : (m2.drop i.toNat).length = m2.length - i.toNat := by simp
  refine ⟨fun u _ => idxB (m2.drop i.toNat) 32 < 0 ∧ u.1 = (m2.drop i.toNat).length ∨ 0 ≤ idxB (m2.drop i.toNat) 32 ∧ u.1 = idxB (m2.drop i.toNat) 32, ⟨fun h => .inl ⟨by omega, ?_⟩, fun h => .inr ⟨by omega, ek⟩⟩, ?_⟩
  · rw [hdl]
    have : IntKind.wrap .i64 ((m2.length : Int) - i) = m2.length - i := wrapK _ (by omega) (by omega)
    rw [this]; omega
  rintro ⟨t, _⟩ _ _ hJ
  obtain ⟨t0, t1, t2⟩ := idx_split hJ
  clear hJ
  simp only at t0 t1 t2 ⊢
  rw [hdl] at t1
  have e1 : IntKind.wrap .i64 (t + 1) = t + 1 := wrapK _ (by omega) (by omega)
  have e2 : IntKind.wrap .i64 (i + (t + 1)) = i + (t + 1) := wrapK _ (by omega) (by omega)
  have e3 : IntKind.wrap .i64 (i + t) = i + t := wrapK _ (by omega) (by omega)
  have e4 : IntKind.wrap .i64 (n + 1) = n + 1 := wrapK _ (by omega) (by omega)
  rw [e1, e2, e3, e4]
  rw [List.drop_drop, show i.toNat + (t.toNat + 1) = (i + (t + 1)).toNat by omega] at t2
  have ew : (m2.take (i + t).toNat).drop i.toNat = (m2.drop i.toNat).take t.toNat := by rw [show (i + t).toNat = i.toNat + t.toNat by omega, List.drop_take, Nat.add_sub_cancel_left]
  rw [ew]
  refine ⟨fun h => ⟨h, h, h, i0, by omega, by omega⟩, fun h => ?_, fun h => ⟨⟨by omega, by omega, by trivial, by trivial, n0, n1, by omega, ?_⟩, by omega⟩⟩
  rotate_left
  · rw [hd, t2, if_pos (by omega)]; rfl
  rw [t2, if_neg (by omega), List.singleton_append] at hd
  have hn : n < V2.length := by
    have := congrArg List.length hd
    simp at this
    omega
  have hd2 := List.drop_eq_getElem_cons (l := V2) (i := n.toNat) (by omega)
  rw [hd2, List.cons.injEq] at hd
  have eg : V2.getD n.toNat [] = (m2.drop i.toNat).take t.toNat := by
    rw [List.getD_eq_getElem?_getD, List.getElem?_eq_getElem (by omega)]
    exact hd.1
  rw [eg]
  refine ⟨h, h, fun h2 => ⟨h2, h2, n0, hn⟩, fun h2 => ?_, fun h2 => ⟨⟨by omega, by omega, by trivial, by trivial, by omega, by omega, by omega, ?_⟩, by omega⟩⟩
  · rcases h2 with h2 | h2
    · omega
    · exact h2 rfl
  · rw [show (n + 1).toNat = n.toNat + 1 by omega]
    exact hd.2
theorem h4 : c4.ok Tryd.prog GL 4 := con_ok (H := {joins := [9]}) (mkEnv_ok (gl := GL) (l := [(13, i13), (14, conSem c14), (12, conSem c12)]) (q := [(25, i25)]) (d := []) _ tyOk (by kernel_rfl) ⟨i13_ok, h14.call, h12.call, trivial⟩ ⟨i25_ok, trivial⟩ trivial) (by kernel_rfl) (by kernel_rfl) (Eq.mp e4 k4)

def t6 : Prop :=
  ∀ (x : List Int × List Int × List Int × Unit),
    Kd.wf Kd.str x.fst ∧ Kd.wf Kd.str x.snd.fst ∧ Kd.wf Kd.str x.snd.snd.fst ∧ True →
      ABulk [AK.dat Kd.str, AK.dat Kd.str, AK.dat Kd.str] x ≤ (1048576 : Nat) →
        List.length x.fst ≤ (100000000 : Nat) ∧
          (∀ (y : List Int × Unit),
              Kd.wf Kd.str y.fst ∧ True →
                y.fst = foldD x.fst →
                  List.length y.fst ≤ (100000000 : Nat) ∧
                    (∀ (y_1 : List Int × Unit),
                        Kd.wf Kd.str y_1.fst ∧ True →
                          y_1.fst = foldD y.fst →
                            (decide (y_1.fst ≠ y.fst) = false → True) ∧
                              (decide (y_1.fst ≠ y.fst) = false → True) ∧
                                (decide (y_1.fst ≠ y.fst) = false →
                                    (decide (y_1.fst ≠ y.fst) == false) = true ∧
                                      (decide (y_1.fst ≠ y.fst) == false) = true ∧
                                        (List.length x.fst ≤ (100000000 : Nat) ∧ List.length y.fst ≤ (100000000 : Nat)) ∧
                                          (∀ (y_2 : Bool × Unit),
                                              Kd.wf Kd.bool y_2.fst ∧ True →
                                                y_2.fst = decide (foldD x.fst = foldD y.fst) →
                                                  ((!y_2.fst) = false → True) ∧
                                                    ((!y_2.fst) = false → True) ∧
                                                      ((!y_2.fst) = false →
                                                          ((!y_2.fst) == false) = true ∧
                                                            ((!y_2.fst) == false) = true ∧
                                                              (List.length x.fst ≤ (100000000 : Nat) ∧ List.length x.fst ≤ (100000000 : Nat)) ∧
                                                                (∀ (y_3 : Bool × Unit),
                                                                    Kd.wf Kd.bool y_3.fst ∧ True →
                                                                      y_3.fst = decide (foldD x.fst = foldD x.fst) →
                                                                        ((!y_3.fst) = false → True) ∧
                                                                          ((!y_3.fst) = false → True) ∧
                                                                            ((!y_3.fst) = false →
                                                                                ((!y_3.fst) == false) = true ∧
                                                                                  ((!y_3.fst) == false) = true ∧
                                                                                    (List.length x.fst ≤ (100000000 : Nat) ∧ List.length x.snd.fst ≤ (100000000 : Nat)) ∧
                                                                                      (∀ (y_4 : Bool × Unit),
                                                                                          Kd.wf Kd.bool y_4.fst ∧ True →
                                                                                            y_4.fst = decide (foldD x.fst = foldD x.snd.fst) →
                                                                                              (List.length x.snd.fst ≤ (100000000 : Nat) ∧ List.length x.fst ≤ (100000000 : Nat)) ∧
                                                                                                (∀ (y_5 : Bool × Unit),
                                                                                                    Kd.wf Kd.bool y_5.fst ∧ True →
                                                                                                      y_5.fst = decide (foldD x.snd.fst = foldD x.fst) →
                                                                                                        (decide (y_4.fst ≠ y_5.fst) = false → True) ∧
                                                                                                          (decide (y_4.fst ≠ y_5.fst) = false → (decide (y_4.fst ≠ y_5.fst) == false) = true ∧ True) ∧
                                                                                                            (decide (y_4.fst ≠ y_5.fst) = false → True) ∧
                                                                                                              (decide (y_4.fst ≠ y_5.fst) = false → (decide (y_4.fst ≠ y_5.fst) == false) = true ∧ True) ∧
                                                                                                                (decide (y_4.fst ≠ y_5.fst) = false →
                                                                                                                    (decide (y_4.fst ≠ y_5.fst) == false) = true ∧
                                                                                                                      (decide (y_4.fst ≠ y_5.fst) == false) = true ∧ True) ∧
                                                                                                                  (decide (y_4.fst ≠ y_5.fst) = false → (decide (y_4.fst ≠ y_5.fst) == false) = true) ∧
                                                                                                                    ((bif decide (y_4.fst ≠ y_5.fst) then true
                                                                                                                          else decide ((↑(List.length x.fst) : Int) < (↑(List.length y.fst) : Int))) =
                                                                                                                          true →
                                                                                                                        false = true) ∧
                                                                                                                      ((bif decide (y_4.fst ≠ y_5.fst) then true
                                                                                                                          else decide ((↑(List.length x.fst) : Int) < (↑(List.length y.fst) : Int))) =
                                                                                                                          false →
                                                                                                                        (List.length x.fst ≤ (100000000 : Nat) ∧
                                                                                                                            List.length x.snd.fst ≤ (100000000 : Nat)) ∧
                                                                                                                          (∀ (y : Bool × Unit),
                                                                                                                              Kd.wf Kd.bool y.fst ∧ True →
                                                                                                                                y.fst = decide (foldD x.fst = foldD x.snd.fst) →
                                                                                                                                  (y.fst = true → True) ∧
                                                                                                                                    (y.fst = true → True) ∧
                                                                                                                                      (y.fst = true →
                                                                                                                                          (y.fst == true) = true ∧
                                                                                                                                            (y.fst == true) = true ∧
                                                                                                                                              (List.length x.snd.fst ≤ (100000000 : Nat) ∧
                                                                                                                                                  List.length x.snd.snd.fst ≤ (100000000 : Nat)) ∧
                                                                                                                                                (∀ (y : Bool × Unit),
                                                                                                                                                    Kd.wf Kd.bool y.fst ∧ True →
                                                                                                                                                      y.fst =
                                                                                                                                                          decide (foldD x.snd.fst = foldD x.snd.snd.fst) →
                                                                                                                                                        (y.fst = true → True) ∧
                                                                                                                                                          (y.fst = true → True) ∧
                                                                                                                                                            (y.fst = true →
                                                                                                                                                                (y.fst == true) = true ∧
                                                                                                                                                                  (y.fst == true) = true ∧
                                                                                                                                                                    (List.length x.fst ≤
                                                                                                                                                                          (100000000 : Nat) ∧
                                                                                                                                                                        List.length x.snd.snd.fst ≤
                                                                                                                                                                          (100000000 : Nat)) ∧
                                                                                                                                                                      (∀ (y : Bool × Unit),
                                                                                                                                                                          Kd.wf Kd.bool y.fst ∧ True →
                                                                                                                                                                            y.fst =
                                                                                                                                                                                decide
                                                                                                                                                                                  (foldD x.fst =
                                                                                                                                                                                    foldD x.snd.snd.fst) →
                                                                                                                                                                              ((!!y.fst) = true →
                                                                                                                                                                                  True ∧
                                                                                                                                                                                    (∀ (y : Bool × Unit),
                                                                                                                                                                                        Kd.wf Kd.bool
                                                                                                                                                                                              y.fst ∧
                                                                                                                                                                                            True →
                                                                                                                                                                                          y.fst = true →
                                                                                                                                                                                            y.fst =
                                                                                                                                                                                              true) ∧
                                                                                                                                                                                      True) ∧
                                                                                                                                                                                ((!!y.fst) = !true →
                                                                                                                                                                                  false = true)) ∧
                                                                                                                                                                        True) ∧
                                                                                                                                                              (y.fst = !true →
                                                                                                                                                                True ∧
                                                                                                                                                                  (∀ (y : Bool × Unit),
                                                                                                                                                                      Kd.wf Kd.bool y.fst ∧ True →
                                                                                                                                                                        y.fst = true → y.fst = true) ∧
                                                                                                                                                                    True)) ∧
                                                                                                                                                  True) ∧
                                                                                                                                        (y.fst = !true →
                                                                                                                                          True ∧
                                                                                                                                            (∀ (y : Bool × Unit),
                                                                                                                                                Kd.wf Kd.bool y.fst ∧ True →
                                                                                                                                                  y.fst = true → y.fst = true) ∧
                                                                                                                                              True)) ∧
                                                                                                                            True)) ∧
                                                                                                  True) ∧
                                                                                        True) ∧
                                                                              ((!y_3.fst) = !false → false = true)) ∧
                                                                  True) ∧
                                                        ((!y_2.fst) = !false → false = true)) ∧
                                            True) ∧
                                  (decide (y_1.fst ≠ y.fst) = !false → false = true)) ∧
                      True) ∧
            True
theorem e6 : t6 = Con.vc c6 GL (mkEnv ty [(15, conSem c15), (17, conSem c17), (12, conSem c12)] [] [] [0, 1, 2, 6, 7, 41]) {} Tryd.f6.ntmps Tryd.f6.results.toList (bodyOf Tryd.f6) := by kernel_rfl
theorem k6 : t6 := by
  unfold t6
  rintro ⟨l, m, n, _⟩ hx hp
  have hl : l.length ≤ 100000000 ∧ m.length ≤ 100000000 ∧ n.length ≤ 100000000 := by
    simp [ABulk, AK.bulk, Kd.bulk, sumOnes] at hp
    omega
  try dsimp +instances only [dft_int, dft_sl, dft_str]
  simp only [true_and, and_true, eq_self_iff_true, implies_true, reduceCtorEq, false_implies, true_implies, decide_eq_true_eq, decide_eq_false_iff_not, beq_self_eq_true, Bool.not_eq_true', ne_eq, Decidable.not_not, List.nil_append, List.length_singleton, List.length_cons, List.length_nil, Nat.zero_add, Nat.add_zero, Nat.mul_one, and_self, beq_iff_eq, Bool.not_true, Bool.not_false, Bool.not_eq_false', Bool.cond_false_right, Bool.and_eq_true, imp_self, Bool.not_eq_true, Bool.cond_true_left, Bool.or_eq_true]
  have hfl := fold_len l
  refine ⟨hl.1, ?_⟩
  rintro ⟨a, _⟩ _ ea
  simp only at ea ⊢
  subst ea
  refine ⟨by omega, ?_⟩
  rintro ⟨b, _⟩ _ eb
  simp only at eb ⊢
  rw [fold_idem] at eb
  subst eb
  refine ⟨fun _ => ⟨rfl, rfl, ⟨hl.1, by omega⟩, ?_⟩, fun h => h rfl⟩
  rintro ⟨c, _⟩ _ ec
  simp only at ec ⊢
  rw [fold_idem] at ec
  have ec : c = true := by rw [ec]; simp
  subst ec
  refine ⟨fun _ => ⟨rfl, rfl, hl.1, ?_⟩, fun h => by cases h⟩
  rintro ⟨d, _⟩ _ ed
  have ed : d = true := by rw [show d = decide True from ed]; decide
  subst ed
  refine ⟨fun _ => ⟨rfl, rfl, ⟨hl.1, hl.2.1⟩, ?_⟩, fun h => by cases h⟩
  rintro ⟨e, _⟩ _ ee
  refine ⟨⟨hl.2.1, hl.1⟩, ?_⟩
  rintro ⟨f, _⟩ _ ef
  simp only at ee ef ⊢
  have hef : e = f := by rw [ee, ef]; exact decide_eq_decide.2 eq_comm
  refine ⟨fun h => ?_, fun _ => ⟨⟨hl.1, hl.2.1⟩, ?_⟩⟩
  · rcases h with h | h
    · exact h hef
    · omega
  rintro ⟨g, _⟩ _ eg hg
  refine ⟨hg, hg, ⟨hl.2.1, hl.2.2⟩, ?_⟩
  rintro ⟨u, _⟩ _ eu hu
  refine ⟨hu, hu, ⟨hl.1, hl.2.2⟩, ?_⟩
  rintro ⟨v, _⟩ _ ev hv
  simp only at eg hg eu hu ev hv
  rw [eg] at hg
  rw [eu] at hu
  rw [ev] at hv
  exact of_decide_eq_false hv ((of_decide_eq_true hg).trans (of_decide_eq_true hu))
theorem h6 : c6.ok Tryd.prog GL 6 := con_ok (H := {}) (mkEnv_ok (gl := GL) (l := [(15, conSem c15), (17, conSem c17), (12, conSem c12)]) (q := []) (d := []) _ tyOk (by kernel_rfl) ⟨h15.call, h17.call, h12.call, trivial⟩ trivial trivial) (by kernel_rfl) (by kernel_rfl) (Eq.mp e6 k6)

def t7 : Prop :=
  ∀ (x : List Int × List Int × Int × Unit),
    Kd.wf Kd.str x.fst ∧ Kd.wf Kd.str x.snd.fst ∧ Kd.wf (Kd.int IntKind.i64) x.snd.snd.fst ∧ True →
      ABulk [AK.dat Kd.str, AK.dat Kd.str, AK.dat (Kd.int IntKind.i64)] x ≤ (1048576 : Nat) →
        (5 : Int) ≠ (0 : Int) ∧
          ∃ (I : Int × List Int × Unit → Unit → Prop),
            ∃ (μ : Int × List Int × Unit → Unit → Nat),
              (Value.bool false = Value.bool false ∧
                  x.fst = x.fst ∧
                    x.snd.fst = x.snd.fst ∧ x.snd.snd.fst = x.snd.snd.fst ∧ I (IntKind.wrap IntKind.i64 (Int.tmod (IntKind.wrap IntKind.u64 x.snd.snd.fst) (5 : Int)), bs { data := #[] }, ()) ()) ∧
                ∀ (y : Int × List Int × Unit) (z : Unit),
                  Kd.wf (Kd.int IntKind.i64) y.fst ∧ Kd.wf Kd.str y.snd.fst ∧ True →
                    True →
                      I y z →
                        (decide ((0 : Int) ≤ y.fst) = true →
                            List.length y.snd.fst + (1 : Nat) ≤ (9223372036854775807 : Nat) ∧
                              Value.bool false = Value.bool false ∧
                                x.fst = x.fst ∧
                                  x.snd.fst = x.snd.fst ∧
                                    x.snd.snd.fst = x.snd.snd.fst ∧
                                      I (IntKind.wrap IntKind.i64 (y.fst - (1 : Int)), y.snd.fst ++ bs { data := #[(32 : UInt8)] }, ()) () ∧
                                        μ (IntKind.wrap IntKind.i64 (y.fst - (1 : Int)), y.snd.fst ++ bs { data := #[(32 : UInt8)] }, ()) () < μ y z) ∧
                          (decide ((0 : Int) ≤ y.fst) = false →
                            List.length y.snd.fst + List.length x.fst ≤ (9223372036854775807 : Nat) ∧
                              List.length (y.snd.fst ++ x.fst) + List.length y.snd.fst ≤ (9223372036854775807 : Nat) ∧
                                (List.length (y.snd.fst ++ x.fst ++ y.snd.fst) ≤ (100000000 : Nat) ∧ List.length x.fst ≤ (100000000 : Nat)) ∧
                                  (∀ (y_1 : Bool × Unit),
                                      Kd.wf Kd.bool y_1.fst ∧ True →
                                        y_1.fst = decide (foldD (y.snd.fst ++ x.fst ++ y.snd.fst) = foldD x.fst) →
                                          (y_1.fst = true → True) ∧
                                            (y_1.fst = true → True) ∧
                                              (y_1.fst = true → (y_1.fst == true) = true ∧ (y_1.fst == true) = true ∧ List.length x.fst + List.length y.snd.fst ≤ (9223372036854775807 : Nat) ∧ True) ∧
                                                (y_1.fst = true → True) ∧
                                                  (y_1.fst = true →
                                                      (y_1.fst == true) = true ∧
                                                        (y_1.fst == true) = true ∧ List.length (x.fst ++ y.snd.fst) + List.length x.snd.fst ≤ (9223372036854775807 : Nat) ∧ True) ∧
                                                    (y_1.fst = true → True) ∧
                                                      (y_1.fst = true → (y_1.fst == true) = true ∧ List.length x.fst + (1 : Nat) ≤ (9223372036854775807 : Nat) ∧ True) ∧
                                                        (y_1.fst = true → True) ∧
                                                          (y_1.fst = true →
                                                              (y_1.fst == true) = true ∧
                                                                (y_1.fst == true) = true ∧
                                                                  List.length (x.fst ++ bs { data := #[(32 : UInt8)] }) + List.length x.snd.fst ≤ (9223372036854775807 : Nat) ∧ True) ∧
                                                            (y_1.fst = true →
                                                                (y_1.fst == true) = true ∧
                                                                  (y_1.fst == true) = true ∧
                                                                    (List.length (x.fst ++ y.snd.fst ++ x.snd.fst) ≤ (100000000 : Nat) ∧
                                                                        List.length (x.fst ++ bs { data := #[(32 : UInt8)] } ++ x.snd.fst) ≤ (100000000 : Nat)) ∧
                                                                      (∀ (y_2 : Bool × Unit),
                                                                          Kd.wf Kd.bool y_2.fst ∧ True →
                                                                            y_2.fst = decide (foldD (x.fst ++ y.snd.fst ++ x.snd.fst) = foldD (x.fst ++ bs { data := #[(32 : UInt8)] } ++ x.snd.fst)) →
                                                                              (y_2.fst = true → True) ∧
                                                                                (y_2.fst = true →
                                                                                    (y_2.fst == true) = true ∧
                                                                                      List.length y.snd.fst ≤ (100000000 : Nat) ∧
                                                                                        (∀ (y_3 : List Int × Unit),
                                                                                            Kd.wf Kd.str y_3.fst ∧ True →
                                                                                              y_3.fst = foldD y.snd.fst →
                                                                                                (decide (y_3.fst = bs { data := #[] }) = true →
                                                                                                    True ∧ (∀ (y : Bool × Unit), Kd.wf Kd.bool y.fst ∧ True → y.fst = true → y.fst = true) ∧ True) ∧
                                                                                                  (decide (y_3.fst = bs { data := #[] }) = !true → false = true)) ∧
                                                                                          True) ∧
                                                                                  (y_2.fst = !true → false = true)) ∧
                                                                        True) ∧
                                                              (y_1.fst = !true → false = true)) ∧
                                    True)
theorem e7 : t7 = Con.vc c7 GL (mkEnv ty [(15, conSem c15), (17, conSem c17), (12, conSem c12)] [] [] [0, 1, 2, 6, 7, 8, 14]) {} Tryd.f7.ntmps Tryd.f7.results.toList (bodyOf Tryd.f7) := by kernel_rfl
theorem k7 : t7 := by
  unfold t7
  rintro ⟨l, m, n, _⟩ hx hp
  have hl : l.length ≤ 2000000 ∧ m.length ≤ 2000000 := by
    simp [ABulk, AK.bulk, Kd.bulk, sumOnes] at hp
    omega
  try dsimp +instances only [dft_int, dft_sl, dft_str]
  simp only [true_and, and_true, eq_self_iff_true, implies_true, reduceCtorEq, false_implies, true_implies, decide_eq_true_eq, decide_eq_false_iff_not, beq_self_eq_true, Bool.not_eq_true', ne_eq, Decidable.not_not, List.nil_append, List.length_singleton, List.length_cons, List.length_nil, Nat.zero_add, Nat.add_zero, Nat.mul_one, and_self, beq_iff_eq, Bool.not_true, Bool.not_false, Bool.not_eq_false', Bool.cond_false_right, Bool.and_eq_true, imp_self, Bool.not_eq_true, Bool.cond_true_left, Bool.or_eq_true]
  have b32 : bs { data := #[32] } = [(32 : Int)] := by decide
  rw [b32, bs_nil]
  have hn0 : 0 ≤ IntKind.wrap .i64 ((IntKind.wrap .u64 n).tmod 5) ∧ IntKind.wrap .i64 ((IntKind.wrap .u64 n).tmod 5) ≤ 4 := by
    have hu : 0 ≤ IntKind.wrap .u64 n := by simp [IntKind.wrap, IntKind.signed, IntKind.bits]; omega
    rw [Int.tmod_eq_emod_of_nonneg hu, wrapK _ (by omega) (by omega)]
    omega
  generalize IntKind.wrap .i64 ((IntKind.wrap .u64 n).tmod 5) = n0 at hn0 ⊢
  refine ⟨by decide, fun y _ => -1 ≤ y.1 ∧ ∃ k : Nat, y.2.1 = List.replicate k 32 ∧ y.1 + k = n0, fun y _ => (y.1 + 1).toNat, ⟨by omega, 0, rfl, by simp⟩, ?_⟩
  rintro ⟨i, sp, _⟩ z _ ⟨h0, k, h1, h2⟩
  simp only at h0 h1 h2 ⊢
  have hk : k ≤ 5 := by omega
  have hsl : sp.length = k := by rw [h1, List.length_replicate]
  refine ⟨fun hge => ⟨by omega, ?_⟩, fun hlt => ⟨by omega, by simp; omega, ⟨by simp; omega, by omega⟩, ?_⟩⟩
  · have hw : IntKind.wrap .i64 (i - 1) = i - 1 := wrapK _ (by omega) (by omega)
    rw [hw]
    exact ⟨⟨by omega, k + 1, by rw [h1, List.replicate_succ'], by omega⟩, by omega⟩
  have hk1 : 1 ≤ k := by omega
  subst h1
  rintro ⟨a, _⟩ _ ea
  simp only at ea ⊢
  have ea : a = true := by rw [ea, fold_around l k hk1]; simp
  subst ea
  refine ⟨fun h => ⟨h, h, by omega⟩, fun h => ⟨h, h, by simp; omega⟩, fun h => ⟨h, by omega⟩, fun h => ⟨h, h, by simp; omega⟩, fun h => ⟨h, h, ⟨by simp; omega, by simp; omega⟩, ?_⟩, fun h => by cases h⟩
  rintro ⟨b, _⟩ _ eb
  simp only at eb ⊢
  have eb : b = true := by rw [eb, fold_mid l m k hk1]; simp
  subst eb
  refine ⟨fun h => ⟨h, by omega, fun y _ ey hne => hne (by rw [ey]; exact fold_sp k hk1)⟩, fun h => by cases h⟩
theorem h7 : c7.ok Tryd.prog GL 7 := con_ok (H := {}) (mkEnv_ok (gl := GL) (l := [(15, conSem c15), (17, conSem c17), (12, conSem c12)]) (q := []) (d := []) _ tyOk (by kernel_rfl) ⟨h15.call, h17.call, h12.call, trivial⟩ trivial trivial) (by kernel_rfl) (by kernel_rfl) (Eq.mp e7 k7)

def t9 : Prop :=
  ∀ (x : List Int × List Int × Unit),
    Kd.wf Kd.str x.fst ∧ Kd.wf Kd.str x.snd.fst ∧ True →
      ABulk [AK.dat Kd.str, AK.dat Kd.str] x ≤ (1048576 : Nat) →
        ∃ (J : Bool × Unit → Unit → Prop),
          (True ∧
              (∀ (y : Bool × Unit),
                  Kd.wf Kd.bool y.fst ∧ True →
                    y.fst = mayD (19 : Int) x.fst →
                      (y.fst = true → True) ∧
                        (y.fst = true →
                            (y.fst == true) = true ∧
                              True ∧
                                (∀ (y : Bool × Unit),
                                    Kd.wf Kd.bool y.fst ∧ True →
                                      y.fst = mayD (22 : Int) x.fst →
                                        ((!y.fst) = false → True) ∧
                                          ((!y.fst) = false →
                                              ((!y.fst) == false) = true ∧
                                                True ∧
                                                  (∀ (y : Bool × Unit),
                                                      Kd.wf Kd.bool y.fst ∧ True →
                                                        y.fst = mayD (22 : Int) x.fst →
                                                          (y.fst = true → True) ∧
                                                            (y.fst = true →
                                                                (y.fst == true) = true ∧
                                                                  True ∧
                                                                    (∀ (y : Bool × Unit),
                                                                        Kd.wf Kd.bool y.fst ∧ True →
                                                                          y.fst = mayD (12 : Int) x.fst →
                                                                            ((!y.fst) = true → false = true) ∧ ((!y.fst) = false → x.fst = x.fst ∧ x.snd.fst = x.snd.fst ∧ J (false, ()) ())) ∧
                                                                      True) ∧
                                                              (y.fst = !true → x.fst = x.fst ∧ x.snd.fst = x.snd.fst ∧ J (false, ()) ())) ∧
                                                    True) ∧
                                            ((!y.fst) = !false → false = true)) ∧
                                  True) ∧
                          (y.fst = !true →
                            True ∧
                              (∀ (y : Bool × Unit),
                                  Kd.wf Kd.bool y.fst ∧ True →
                                    y.fst = mayD (22 : Int) x.fst →
                                      (y.fst = true → True) ∧
                                        (y.fst = true →
                                            (y.fst == true) = true ∧
                                              True ∧
                                                (∀ (y : Bool × Unit),
                                                    Kd.wf Kd.bool y.fst ∧ True →
                                                      y.fst = mayD (12 : Int) x.fst → ((!y.fst) = true → false = true) ∧ ((!y.fst) = false → x.fst = x.fst ∧ x.snd.fst = x.snd.fst ∧ J (false, ()) ())) ∧
                                                  True) ∧
                                          (y.fst = !true → x.fst = x.fst ∧ x.snd.fst = x.snd.fst ∧ J (false, ()) ())) ∧
                                True)) ∧
                True) ∧
            ∀ (u : Bool × Unit) (z : Unit),
              Kd.wf Kd.bool u.fst ∧ True →
                True →
                  J u z →
                    True ∧
                      (∀ (y : Int × Int × Unit),
                          Kd.wf (Kd.int IntKind.i64) y.fst ∧ Kd.wf (Kd.int IntKind.i64) y.snd.fst ∧ True →
                            y.fst = (kindD x.fst).fst ∧ y.snd.fst = (kindD x.fst).snd →
                              ∃ (J : Bool × Unit → Unit → Prop),
                                ((decide (y.snd.fst = (0 : Int)) = true → True) ∧
                                    (decide (y.snd.fst = (0 : Int)) = true → True) ∧
                                      (decide (y.snd.fst = (0 : Int)) = true →
                                          (decide (y.snd.fst = (0 : Int)) == true) = true ∧
                                            (decide (y.snd.fst = (0 : Int)) == true) = true ∧
                                              True ∧
                                                (∀ (y_1 : Bool × Unit),
                                                    Kd.wf Kd.bool y_1.fst ∧ True →
                                                      y_1.fst = mayD y.fst x.fst →
                                                        ((!y_1.fst) = false → True) ∧
                                                          ((!y_1.fst) = false →
                                                              ((!y_1.fst) == false) = true ∧
                                                                True ∧
                                                                  (∀ (y_2 : Int × Unit),
                                                                      Kd.wf (Kd.int IntKind.i64) y_2.fst ∧ True →
                                                                        y_2.fst = (↑(vld x.fst (0 : Nat)) : Int) →
                                                                          (decide (y_2.fst ≠ (↑(List.length x.fst) : Int)) = true → false = true) ∧
                                                                            (decide (y_2.fst ≠ (↑(List.length x.fst) : Int)) = false →
                                                                              y.snd.fst = y.snd.fst ∧ y.fst = y.fst ∧ x.fst = x.fst ∧ x.snd.fst = x.snd.fst ∧ J (u.fst, ()) ())) ∧
                                                                    True) ∧
                                                            ((!y_1.fst) = !false → false = true)) ∧
                                                  True) ∧
                                        (decide (y.snd.fst = (0 : Int)) = !true → y.snd.fst = y.snd.fst ∧ y.fst = y.fst ∧ x.fst = x.fst ∧ x.snd.fst = x.snd.fst ∧ J (u.fst, ()) ())) ∧
                                  ∀ (u : Bool × Unit) (z : Unit),
                                    Kd.wf Kd.bool u.fst ∧ True →
                                      True →
                                        J u z →
                                          True ∧
                                            (∀ (y : Int × Unit),
                                                Kd.wf (Kd.int IntKind.i64) y.fst ∧ True →
                                                  y.fst = (↑(vld x.fst (0 : Nat)) : Int) →
                                                    (decide (y.fst < (0 : Int)) = false → True) ∧
                                                      (decide (y.fst < (0 : Int)) = false → True) ∧
                                                        (decide (y.fst < (0 : Int)) = false → (decide (y.fst < (0 : Int)) == false) = true ∧ True) ∧
                                                          (decide (y.fst < (0 : Int)) = false → (decide (y.fst < (0 : Int)) == false) = true ∧ (decide (y.fst < (0 : Int)) == false) = true ∧ True) ∧
                                                            (decide (y.fst < (0 : Int)) = false → (decide (y.fst < (0 : Int)) == false) = true) ∧
                                                              ((bif decide (y.fst < (0 : Int)) then true else decide ((↑(List.length x.fst) : Int) < y.fst)) = false → True) ∧
                                                                ((bif decide (y.fst < (0 : Int)) then true else decide ((↑(List.length x.fst) : Int) < y.fst)) = false → True) ∧
                                                                  ((bif decide (y.fst < (0 : Int)) then true else decide ((↑(List.length x.fst) : Int) < y.fst)) = false →
                                                                      ((bif decide (y.fst < (0 : Int)) then true else decide ((↑(List.length x.fst) : Int) < y.fst)) == false) = true ∧
                                                                        ((bif decide (y.fst < (0 : Int)) then true else decide ((↑(List.length x.fst) : Int) < y.fst)) == false) = true ∧
                                                                          ((0 : Int) ≤ y.fst ∧ y.fst ≤ (↑(List.length x.fst) : Int)) ∧ True) ∧
                                                                    ((bif decide (y.fst < (0 : Int)) then true else decide ((↑(List.length x.fst) : Int) < y.fst)) = false →
                                                                        ((bif decide (y.fst < (0 : Int)) then true else decide ((↑(List.length x.fst) : Int) < y.fst)) == false) = true ∧
                                                                          True ∧
                                                                            (∀ (y_1 : Int × Unit),
                                                                                Kd.wf (Kd.int IntKind.i64) y_1.fst ∧ True →
                                                                                  y_1.fst = (↑(vld (List.take (Int.toNat y.fst) x.fst) (0 : Nat)) : Int) →
                                                                                    (decide (y_1.fst ≠ y.fst) = true → false = true) ∧
                                                                                      (decide (y_1.fst ≠ y.fst) = false →
                                                                                        ((0 : Int) ≤ y.fst ∧ y.fst ≤ (↑(List.length x.fst) : Int)) ∧
                                                                                          List.length (List.take (Int.toNat y.fst) x.fst) + List.length x.snd.fst ≤ (9223372036854775807 : Nat) ∧
                                                                                            True ∧
                                                                                              (∀ (y_2 : Int × Unit),
                                                                                                  Kd.wf (Kd.int IntKind.i64) y_2.fst ∧ True →
                                                                                                    y_2.fst = (↑(vld (List.take (Int.toNat y.fst) x.fst ++ x.snd.fst) (0 : Nat)) : Int) →
                                                                                                      True ∧
                                                                                                        (∀ (y_3 : Int × Unit),
                                                                                                            Kd.wf (Kd.int IntKind.i64) y_3.fst ∧ True →
                                                                                                              y_3.fst = (↑(vld x.snd.fst (0 : Nat)) : Int) →
                                                                                                                (decide (y_2.fst = IntKind.wrap IntKind.i64 (y.fst + y_3.fst)) = true →
                                                                                                                    True ∧
                                                                                                                      (∀ (y : Bool × Unit), Kd.wf Kd.bool y.fst ∧ True → y.fst = true → y.fst = true) ∧
                                                                                                                        True) ∧
                                                                                                                  (decide (y_2.fst = IntKind.wrap IntKind.i64 (y.fst + y_3.fst)) = !true →
                                                                                                                    false = true)) ∧
                                                                                                          True) ∧
                                                                                                True)) ∧
                                                                              True) ∧
                                                                      ((bif decide (y.fst < (0 : Int)) then true else decide ((↑(List.length x.fst) : Int) < y.fst)) = !false → false = true)) ∧
                                              True) ∧
                        True
theorem e9 : t9 = Con.vc c9 GL (mkEnv ty [(20, conSem c20), (18, conSem c18), (10, conSem c10), (12, conSem c12)] [] [] [0, 1, 4, 5, 6, 7, 23, 43, 61]) {joins := [3,6]} Tryd.f9.ntmps Tryd.f9.results.toList (bodyOf Tryd.f9) := by kernel_rfl
theorem k9 : t9 := by
  unfold t9
  rintro ⟨l, m, _⟩ hx hp
  have hw : Kd.wf Kd.str l := hx.1
  have hwm : Kd.wf Kd.str m := hx.2.1
  have hp : l.length ≤ 2000000 ∧ m.length ≤ 2000000 := by
    simp [ABulk, AK.bulk, Kd.bulk, sumOnes] at hp
    omega
  try dsimp +instances only [dft_int, dft_sl, dft_str]
  simp only [true_and, and_true, eq_self_iff_true, implies_true, reduceCtorEq, false_implies, true_implies, decide_eq_true_eq, decide_eq_false_iff_not, beq_self_eq_true, Bool.not_eq_true', ne_eq, Decidable.not_not, List.nil_append, List.length_singleton, List.length_cons, List.length_nil, Nat.zero_add, Nat.add_zero, Nat.mul_one, and_self, beq_iff_eq, Bool.not_true, Bool.not_false, Bool.not_eq_false', Bool.cond_false_right, Bool.and_eq_true, imp_self, Bool.not_eq_true, Bool.cond_true_left, Bool.or_eq_true]
  have hb := vld_bd l _ 0 (Nat.le_refl _) (by omega)
  have hbm := vld_bd m _ 0 (Nat.le_refl _) (by omega)
  have wapp : ∀ x : List Int, Kd.wf Kd.str x → Kd.wf Kd.str (l.take (vld l 0) ++ x) ∨ 2000000 < x.length := fun x hx => by
    by_cases hxl : 2000000 < x.length
    · exact .inr hxl
    · refine .inl ⟨by rw [List.length_append, List.length_take]; omega, fun b hb => ?_⟩
      rcases List.mem_append.1 hb with hb | hb
      · exact hw.2 b (List.mem_of_mem_take hb)
      · exact hx.2 b hb
  have a1 : vld (l.take (vld l 0)) 0 = vld l 0 := by
    have := vld_app (m := []) hw ((wapp [] ⟨by decide, fun b hb => by cases hb⟩).resolve_right (by decide))
    rw [List.append_nil, vld_stop (l := []) (by simp)] at this
    exact this
  have a2 : vld (l.take (vld l 0) ++ m) 0 = vld l 0 + vld m 0 := vld_app hw ((wapp m hwm).resolve_right (by omega))
  refine ⟨fun _ _ => True, ?_, ?_⟩
  · rintro ⟨a, _⟩ _ ea
    simp only at ea ⊢
    refine ⟨fun h => ⟨h, ?_⟩, fun h => ?_⟩
    · rintro ⟨b, _⟩ _ eb
      simp only at eb ⊢
      have h22 := may_19 (ea.symm.trans h)
      refine ⟨fun h => ⟨h, ?_⟩, fun h => ?_⟩
      · rintro ⟨c, _⟩ _ ec
        simp only at ec ⊢
        refine ⟨fun h => ⟨h, ?_⟩, fun h => trivial⟩
        rintro ⟨d, _⟩ _ ed
        refine ⟨fun h => ?_, fun _ => trivial⟩
        rw [show d = mayD 12 l from ed, (may_22 hw h22).2] at h
        cases h
      · rw [eb, h22] at h; cases h
    · rintro ⟨c, _⟩ _ ec
      simp only at ec ⊢
      refine ⟨fun h => ⟨h, ?_⟩, fun h => trivial⟩
      rintro ⟨d, _⟩ _ ed
      have h22 := ec.symm.trans h
      refine ⟨fun h => ?_, fun _ => trivial⟩
      rw [show d = mayD 12 l from ed, (may_22 hw h22).2] at h
      cases h
  rintro ⟨r, _⟩ _ _ _ ⟨k, e, _⟩ _ ⟨ek, ee⟩
  simp only at ek ee ⊢
  subst ek ee
  refine ⟨fun _ _ => True, ⟨fun h => ⟨h, h, ?_⟩, fun _ => trivial⟩, ?_⟩
  · rintro ⟨a, _⟩ _ ea
    obtain ⟨k1, k2⟩ := kind_ok hw h
    refine ⟨fun h => ⟨h, ?_⟩, fun h => ?_⟩
    · rintro ⟨b, _⟩ _ eb
      simp only at eb ⊢
      exact ⟨fun h => h (by rw [eb, k2]), fun _ => trivial⟩
    · rw [show a = _ from ea, k1] at h; cases h
  rintro ⟨r2, _⟩ _ _ _ ⟨a, _⟩ _ ea
  simp only at ea ⊢
  subst ea
  rw [Int.toNat_natCast, a1, a2]
  refine ⟨fun h => ⟨h, h, by omega, by omega⟩, fun h => ⟨h, ?_⟩, fun h => by omega⟩
  rintro ⟨b, _⟩ _ eb
  simp only at eb ⊢
  refine ⟨fun h => h eb, fun _ => ⟨⟨by omega, by omega⟩, by rw [List.length_take]; omega, ?_⟩⟩
  rintro ⟨c, _⟩ _ ec ⟨d, _⟩ _ ed
  simp only at ec ed ⊢
  rw [ec, ed, wrapK _ (by omega) (by omega)]
  intro h
  exact h (by omega)
theorem h9 : c9.ok Tryd.prog GL 9 := con_ok (H := {joins := [3,6]}) (mkEnv_ok (gl := GL) (l := [(20, conSem c20), (18, conSem c18), (10, conSem c10), (12, conSem c12)]) (q := []) (d := []) _ tyOk (by kernel_rfl) ⟨h20.call, h18.call, h10.call, h12.call, trivial⟩ trivial trivial) (by kernel_rfl) (by kernel_rfl) (Eq.mp e9 k9)

end Go.Proofs.YtpkhpjohlfhldaaDoor
