/- Walks. -/
import Derived.Test.YtlpbhgcndebkcaaZLaw13oA
set_option linter.unusedVariables false
set_option linter.unusedSimpArgs false
namespace Go.Proofs.Ytlpbhgcndebkcaa
open Go Go.Vc Go.Pl Go.Proofs
set_option linter.unusedVariables false
set_option linter.unusedSimpArgs false
def t5 : Prop :=
  ∀ (x : List Int × List Int × Unit),
    Kd.wf Kd.str x.fst ∧ Kd.wf Kd.str x.snd.fst ∧ True →
      ABulk [AK.dat Kd.str, AK.dat Kd.str] x ≤ (1048576 : Nat) →
        (List.length x.fst ≤ (1000000000 : Nat) ∧ List.length x.snd.fst ≤ (1000000000 : Nat)) ∧
          (∀ (y : Bool × Unit),
              Kd.wf Kd.bool y.fst ∧ True →
                y.fst = matchD x.fst x.snd.fst →
                  ((!y.fst) = true → True ∧ (∀ (y : Bool × Unit), Kd.wf Kd.bool y.fst ∧ True → y.fst = true → y.fst = true) ∧ True) ∧
                    ((!y.fst) = false →
                      ∃ (J : Bool × Unit → Unit → Prop),
                        (List.length x.snd.fst ≤ (1000000000 : Nat) ∧
                            (∀ (y : Bool × Unit),
                                Kd.wf Kd.bool y.fst ∧ True →
                                  y.fst = dnsD x.snd.fst →
                                    ((!y.fst) = false → True) ∧
                                      ((!y.fst) = false →
                                          ((!y.fst) == false) = true ∧
                                            List.length x.fst ≤ (1000000000 : Nat) ∧
                                              (∀ (y : Bool × Unit),
                                                  Kd.wf Kd.bool y.fst ∧ True →
                                                    y.fst = dnsD x.fst →
                                                      ((!y.fst) = true → True) ∧
                                                        ((!y.fst) = true →
                                                            ((!y.fst) == true) = true ∧
                                                              List.length x.fst ≤ (1000000000 : Nat) ∧
                                                                (∀ (y : Bool × Unit),
                                                                    Kd.wf Kd.bool y.fst ∧ True →
                                                                      y.fst = wildD x.fst →
                                                                        ((!y.fst) = false → True) ∧
                                                                          ((!y.fst) = false → True) ∧
                                                                            ((!y.fst) = false → ((!y.fst) == false) = true ∧ (2 : Nat) + List.length x.snd.fst ≤ (9223372036854775807 : Nat) ∧ True) ∧
                                                                              ((!y.fst) = false →
                                                                                  ((!y.fst) == false) = true ∧
                                                                                    ((!y.fst) == false) = true ∧
                                                                                      (List.length x.fst ≤ (1000000000 : Nat) ∧
                                                                                          List.length (bs { data := #[(120 : UInt8), (46 : UInt8)] } ++ x.snd.fst) ≤ (1000000000 : Nat)) ∧
                                                                                        (∀ (y : Bool × Unit),
                                                                                            Kd.wf Kd.bool y.fst ∧ True →
                                                                                              y.fst = matchD x.fst (bs { data := #[(120 : UInt8), (46 : UInt8)] } ++ x.snd.fst) →
                                                                                                (y.fst = true → false = true) ∧
                                                                                                  (y.fst = false →
                                                                                                    Value.bool false = Value.bool false ∧ x.fst = x.fst ∧ x.snd.fst = x.snd.fst ∧ J (false, ()) ())) ∧
                                                                                          True) ∧
                                                                                ((!y.fst) = !false → false = true)) ∧
                                                                  True) ∧
                                                          ((!y.fst) = !true →
                                                            (2 : Nat) + List.length x.snd.fst ≤ (9223372036854775807 : Nat) ∧
                                                              (List.length x.fst ≤ (1000000000 : Nat) ∧ List.length (bs { data := #[(120 : UInt8), (46 : UInt8)] } ++ x.snd.fst) ≤ (1000000000 : Nat)) ∧
                                                                (∀ (y : Bool × Unit),
                                                                    Kd.wf Kd.bool y.fst ∧ True →
                                                                      y.fst = matchD x.fst (bs { data := #[(120 : UInt8), (46 : UInt8)] } ++ x.snd.fst) →
                                                                        (y.fst = true → false = true) ∧
                                                                          (y.fst = false → Value.bool false = Value.bool false ∧ x.fst = x.fst ∧ x.snd.fst = x.snd.fst ∧ J (false, ()) ())) ∧
                                                                  True)) ∧
                                                True) ∧
                                        ((!y.fst) = !false → false = true)) ∧
                              True) ∧
                          ∀ (u : Bool × Unit) (z : Unit),
                            Kd.wf Kd.bool u.fst ∧ True →
                              True →
                                J u z →
                                  (1 : Nat) ≤ (65536 : Nat) ∧
                                    (1 : Nat) ≤ (65536 : Nat) ∧
                                      List.length [SV.dat Kd.str x.fst] ≤ (65536 : Nat) ∧
                                        (List.length x.fst < (4294967281 : Nat) ∧ List.length (bs { data := #[(46 : UInt8)] }) = (1 : Nat)) ∧
                                          (∀ (y : List Int × List Int × Bool × Unit),
                                              Kd.wf Kd.str y.fst ∧ Kd.wf Kd.str y.snd.fst ∧ Kd.wf Kd.bool y.snd.snd.fst ∧ True →
                                                y.fst = (cutD (List.getD (bs { data := #[(46 : UInt8)] }) (0 : Nat) (0 : Int)) x.fst).fst ∧
                                                    y.snd.fst = (cutD (List.getD (bs { data := #[(46 : UInt8)] }) (0 : Nat) (0 : Int)) x.fst).snd.fst ∧
                                                      y.snd.snd.fst = (cutD (List.getD (bs { data := #[(46 : UInt8)] }) (0 : Nat) (0 : Int)) x.fst).snd.snd →
                                                  ∃ (I : Bool × List Int × List Int × Unit → (Int × Unit) × (Int × Unit) × (List Int × Unit) × Unit → Prop),
                                                    ∃ (μ : Bool × List Int × List Int × Unit → (Int × Unit) × (Int × Unit) × (List Int × Unit) × Unit → Nat),
                                                      (Value.bool false = Value.bool false ∧
                                                          u.fst = u.fst ∧
                                                            x.fst = x.fst ∧ x.snd.fst = x.snd.fst ∧ I (y.snd.snd.fst, y.snd.fst, y.fst, ()) (((0 : Int), ()), ((0 : Int), ()), (x.fst, ()), ())) ∧
                                                        ∀ (y : Bool × List Int × List Int × Unit) (z : (Int × Unit) × (Int × Unit) × (List Int × Unit) × Unit),
                                                          Kd.wf Kd.bool y.fst ∧ Kd.wf Kd.str y.snd.fst ∧ Kd.wf Kd.str y.snd.snd.fst ∧ True →
                                                            (Kd.wf (Kd.int IntKind.i64) z.fst.fst ∧ True) ∧
                                                                (Kd.wf (Kd.int IntKind.i64) z.snd.fst.fst ∧ True) ∧ (Kd.wf Kd.str z.snd.snd.fst.fst ∧ True) ∧ True →
                                                              I y z →
                                                                (y.fst = true →
                                                                    (List.length y.snd.fst < (4294967281 : Nat) ∧ List.length (bs { data := #[(46 : UInt8)] }) = (1 : Nat)) ∧
                                                                      (∀ (y_1 : List Int × List Int × Bool × Unit),
                                                                          Kd.wf Kd.str y_1.fst ∧ Kd.wf Kd.str y_1.snd.fst ∧ Kd.wf Kd.bool y_1.snd.snd.fst ∧ True →
                                                                            y_1.fst = (cutD (List.getD (bs { data := #[(46 : UInt8)] }) (0 : Nat) (0 : Int)) y.snd.fst).fst ∧
                                                                                y_1.snd.fst = (cutD (List.getD (bs { data := #[(46 : UInt8)] }) (0 : Nat) (0 : Int)) y.snd.fst).snd.fst ∧
                                                                                  y_1.snd.snd.fst = (cutD (List.getD (bs { data := #[(46 : UInt8)] }) (0 : Nat) (0 : Int)) y.snd.fst).snd.snd →
                                                                              Value.bool false = Value.bool false ∧
                                                                                u.fst = u.fst ∧
                                                                                  x.fst = x.fst ∧
                                                                                    x.snd.fst = x.snd.fst ∧
                                                                                      I (y_1.snd.snd.fst, y_1.snd.fst, y_1.fst, ())
                                                                                          ((IntKind.wrap IntKind.i64 (z.fst.fst + (1 : Int)), ()), (z.snd.fst.fst, ()), (z.snd.snd.fst.fst, ()), ()) ∧
                                                                                        μ (y_1.snd.snd.fst, y_1.snd.fst, y_1.fst, ())
                                                                                            ((IntKind.wrap IntKind.i64 (z.fst.fst + (1 : Int)), ()), (z.snd.fst.fst, ()), (z.snd.snd.fst.fst, ()), ()) <
                                                                                          μ y z) ∧
                                                                        True) ∧
                                                                  (y.fst = false →
                                                                    (1 : Nat) ≤ (65536 : Nat) ∧
                                                                      (1 : Nat) ≤ (65536 : Nat) ∧
                                                                        List.length [SV.dat Kd.str x.snd.fst] ≤ (65536 : Nat) ∧
                                                                          (List.length x.snd.fst < (4294967281 : Nat) ∧ List.length (bs { data := #[(46 : UInt8)] }) = (1 : Nat)) ∧
                                                                            (∀ (y : List Int × List Int × Bool × Unit),
                                                                                Kd.wf Kd.str y.fst ∧ Kd.wf Kd.str y.snd.fst ∧ Kd.wf Kd.bool y.snd.snd.fst ∧ True →
                                                                                  y.fst = (cutD (List.getD (bs { data := #[(46 : UInt8)] }) (0 : Nat) (0 : Int)) x.snd.fst).fst ∧
                                                                                      y.snd.fst = (cutD (List.getD (bs { data := #[(46 : UInt8)] }) (0 : Nat) (0 : Int)) x.snd.fst).snd.fst ∧
                                                                                        y.snd.snd.fst = (cutD (List.getD (bs { data := #[(46 : UInt8)] }) (0 : Nat) (0 : Int)) x.snd.fst).snd.snd →
                                                                                    ∃ (I :
                                                                                      Bool × List Int × List Int × Unit →
                                                                                        (Int × Unit) ×
                                                                                            (Int × Unit) × (List Int × Unit) × (List Int × Unit) × (Bool × Unit) × (List Int × Unit) × Unit →
                                                                                          Prop),
                                                                                      ∃ (μ :
                                                                                        Bool × List Int × List Int × Unit →
                                                                                          (Int × Unit) ×
                                                                                              (Int × Unit) × (List Int × Unit) × (List Int × Unit) × (Bool × Unit) × (List Int × Unit) × Unit →
                                                                                            Nat),
                                                                                        (Value.bool false = Value.bool false ∧
                                                                                            u.fst = u.fst ∧
                                                                                              x.fst = x.fst ∧
                                                                                                x.snd.fst = x.snd.fst ∧
                                                                                                  I (y.snd.snd.fst, y.snd.fst, y.fst, ())
                                                                                                    ((IntKind.wrap IntKind.i64 (z.fst.fst + (1 : Int)), ()), (z.snd.fst.fst, ()), (z.snd.snd.fst.fst, ()),
                                                                                                      (bs { data := #[] }, ()), (true, ()), (x.snd.fst, ()), ())) ∧
                                                                                          ∀ (y : Bool × List Int × List Int × Unit)
                                                                                            (z :
                                                                                              (Int × Unit) ×
                                                                                                (Int × Unit) × (List Int × Unit) × (List Int × Unit) × (Bool × Unit) × (List Int × Unit) × Unit),
                                                                                            Kd.wf Kd.bool y.fst ∧ Kd.wf Kd.str y.snd.fst ∧ Kd.wf Kd.str y.snd.snd.fst ∧ True →
                                                                                              (Kd.wf (Kd.int IntKind.i64) z.fst.fst ∧ True) ∧
                                                                                                  (Kd.wf (Kd.int IntKind.i64) z.snd.fst.fst ∧ True) ∧
                                                                                                    (Kd.wf Kd.str z.snd.snd.fst.fst ∧ True) ∧
                                                                                                      (Kd.wf Kd.str z.snd.snd.snd.fst.fst ∧ True) ∧
                                                                                                        (Kd.wf Kd.bool z.snd.snd.snd.snd.fst.fst ∧ True) ∧
                                                                                                          (Kd.wf Kd.str z.snd.snd.snd.snd.snd.fst.fst ∧ True) ∧ True →
                                                                                                I y z →
                                                                                                  ∃ (J :
                                                                                                    Unit →
                                                                                                      (Int × Unit) ×
                                                                                                          (Int × Unit) ×
                                                                                                            (List Int × Unit) × (List Int × Unit) × (Bool × Unit) × (List Int × Unit) × Unit →
                                                                                                        Prop),
                                                                                                    ((decide ((1 : Int) < z.snd.fst.fst) = true →
                                                                                                          List.length z.snd.snd.snd.fst.fst + List.length (bs { data := #[(46 : UInt8)] }) ≤
                                                                                                              (9223372036854775807 : Nat) ∧
                                                                                                            y.snd.snd.fst = y.snd.snd.fst ∧
                                                                                                              y.snd.snd.fst = y.snd.snd.fst ∧
                                                                                                                Value.bool false = Value.bool false ∧
                                                                                                                  u.fst = u.fst ∧
                                                                                                                    x.fst = x.fst ∧
                                                                                                                      x.snd.fst = x.snd.fst ∧
                                                                                                                        y.snd.snd.fst = y.snd.snd.fst ∧
                                                                                                                          y.fst = y.fst ∧
                                                                                                                            y.snd.fst = y.snd.fst ∧
                                                                                                                              y.snd.snd.fst = y.snd.snd.fst ∧
                                                                                                                                Value.bool false = Value.bool false ∧
                                                                                                                                  u.fst = u.fst ∧
                                                                                                                                    x.fst = x.fst ∧
                                                                                                                                      x.snd.fst = x.snd.fst ∧
                                                                                                                                        J ()
                                                                                                                                          ((z.fst.fst, ()), (z.snd.fst.fst, ()), (z.snd.snd.fst.fst, ()),
                                                                                                                                            (z.snd.snd.snd.fst.fst ++ bs { data := #[(46 : UInt8)] }, ()),
                                                                                                                                            (z.snd.snd.snd.snd.fst.fst, ()),
                                                                                                                                            (z.snd.snd.snd.snd.snd.fst.fst, ()), ())) ∧
                                                                                                        (decide ((1 : Int) < z.snd.fst.fst) = false →
                                                                                                          y.snd.snd.fst = y.snd.snd.fst ∧
                                                                                                            y.snd.snd.fst = y.snd.snd.fst ∧
                                                                                                              Value.bool false = Value.bool false ∧
                                                                                                                u.fst = u.fst ∧
                                                                                                                  x.fst = x.fst ∧
                                                                                                                    x.snd.fst = x.snd.fst ∧
                                                                                                                      y.snd.snd.fst = y.snd.snd.fst ∧
                                                                                                                        y.fst = y.fst ∧
                                                                                                                          y.snd.fst = y.snd.fst ∧
                                                                                                                            y.snd.snd.fst = y.snd.snd.fst ∧
                                                                                                                              Value.bool false = Value.bool false ∧
                                                                                                                                u.fst = u.fst ∧
                                                                                                                                  x.fst = x.fst ∧
                                                                                                                                    x.snd.fst = x.snd.fst ∧
                                                                                                                                      J ()
                                                                                                                                        ((z.fst.fst, ()), (z.snd.fst.fst, ()), (z.snd.snd.fst.fst, ()),
                                                                                                                                          (z.snd.snd.snd.fst.fst, ()), (z.snd.snd.snd.snd.fst.fst, ()),
                                                                                                                                          (z.snd.snd.snd.snd.snd.fst.fst, ()), ()))) ∧
                                                                                                      ∀ (u_1 : Unit)
                                                                                                        (z_1 :
                                                                                                          (Int × Unit) ×
                                                                                                            (Int × Unit) ×
                                                                                                              (List Int × Unit) × (List Int × Unit) × (Bool × Unit) × (List Int × Unit) × Unit),
                                                                                                        True →
                                                                                                          (Kd.wf (Kd.int IntKind.i64) z_1.fst.fst ∧ True) ∧
                                                                                                              (Kd.wf (Kd.int IntKind.i64) z_1.snd.fst.fst ∧ True) ∧
                                                                                                                (Kd.wf Kd.str z_1.snd.snd.fst.fst ∧ True) ∧
                                                                                                                  (Kd.wf Kd.str z_1.snd.snd.snd.fst.fst ∧ True) ∧
                                                                                                                    (Kd.wf Kd.bool z_1.snd.snd.snd.snd.fst.fst ∧ True) ∧
                                                                                                                      (Kd.wf Kd.str z_1.snd.snd.snd.snd.snd.fst.fst ∧ True) ∧ True →
                                                                                                            J u_1 z_1 →
                                                                                                              ∃ (J :
                                                                                                                Unit →
                                                                                                                  (Int × Unit) ×
                                                                                                                      (Int × Unit) ×
                                                                                                                        (List Int × Unit) ×
                                                                                                                          (List Int × Unit) × (Bool × Unit) × (List Int × Unit) × Unit →
                                                                                                                    Prop),
                                                                                                                ((decide ((0 : Int) < z_1.snd.fst.fst) = true →
                                                                                                                      List.length z_1.snd.snd.snd.fst.fst + List.length y.snd.snd.fst ≤
                                                                                                                          (9223372036854775807 : Nat) ∧
                                                                                                                        y.snd.snd.fst = y.snd.snd.fst ∧
                                                                                                                          y.snd.snd.fst = y.snd.snd.fst ∧
                                                                                                                            Value.bool false = Value.bool false ∧
                                                                                                                              u.fst = u.fst ∧
                                                                                                                                x.fst = x.fst ∧
                                                                                                                                  x.snd.fst = x.snd.fst ∧
                                                                                                                                    y.snd.snd.fst = y.snd.snd.fst ∧
                                                                                                                                      y.fst = y.fst ∧
                                                                                                                                        y.snd.fst = y.snd.fst ∧
                                                                                                                                          y.snd.snd.fst = y.snd.snd.fst ∧
                                                                                                                                            Value.bool false = Value.bool false ∧
                                                                                                                                              u.fst = u.fst ∧
                                                                                                                                                x.fst = x.fst ∧
                                                                                                                                                  x.snd.fst = x.snd.fst ∧
                                                                                                                                                    J ()
                                                                                                                                                      ((z_1.fst.fst, ()), (z_1.snd.fst.fst, ()),
                                                                                                                                                        (z_1.snd.snd.fst.fst, ()),
                                                                                                                                                        (z_1.snd.snd.snd.fst.fst ++ y.snd.snd.fst, ()),
                                                                                                                                                        (false, ()),
                                                                                                                                                        (z_1.snd.snd.snd.snd.snd.fst.fst, ()), ())) ∧
                                                                                                                    (decide ((0 : Int) < z_1.snd.fst.fst) = false →
                                                                                                                      y.snd.snd.fst = y.snd.snd.fst ∧
                                                                                                                        y.snd.snd.fst = y.snd.snd.fst ∧
                                                                                                                          Value.bool false = Value.bool false ∧
                                                                                                                            u.fst = u.fst ∧
                                                                                                                              x.fst = x.fst ∧
                                                                                                                                x.snd.fst = x.snd.fst ∧
                                                                                                                                  y.snd.snd.fst = y.snd.snd.fst ∧
                                                                                                                                    y.fst = y.fst ∧
                                                                                                                                      y.snd.fst = y.snd.fst ∧
                                                                                                                                        y.snd.snd.fst = y.snd.snd.fst ∧
                                                                                                                                          Value.bool false = Value.bool false ∧
                                                                                                                                            u.fst = u.fst ∧
                                                                                                                                              x.fst = x.fst ∧
                                                                                                                                                x.snd.fst = x.snd.fst ∧
                                                                                                                                                  J ()
                                                                                                                                                    ((z_1.fst.fst, ()), (z_1.snd.fst.fst, ()),
                                                                                                                                                      (z_1.snd.snd.fst.fst, ()),
                                                                                                                                                      (z_1.snd.snd.snd.fst.fst, ()),
                                                                                                                                                      (z_1.snd.snd.snd.snd.fst.fst, ()),
                                                                                                                                                      (z_1.snd.snd.snd.snd.snd.fst.fst, ()), ()))) ∧
                                                                                                                  ∀ (u_2 : Unit)
                                                                                                                    (z_2 :
                                                                                                                      (Int × Unit) ×
                                                                                                                        (Int × Unit) ×
                                                                                                                          (List Int × Unit) ×
                                                                                                                            (List Int × Unit) × (Bool × Unit) × (List Int × Unit) × Unit),
                                                                                                                    True →
                                                                                                                      (Kd.wf (Kd.int IntKind.i64) z_2.fst.fst ∧ True) ∧
                                                                                                                          (Kd.wf (Kd.int IntKind.i64) z_2.snd.fst.fst ∧ True) ∧
                                                                                                                            (Kd.wf Kd.str z_2.snd.snd.fst.fst ∧ True) ∧
                                                                                                                              (Kd.wf Kd.str z_2.snd.snd.snd.fst.fst ∧ True) ∧
                                                                                                                                (Kd.wf Kd.bool z_2.snd.snd.snd.snd.fst.fst ∧ True) ∧
                                                                                                                                  (Kd.wf Kd.str z_2.snd.snd.snd.snd.snd.fst.fst ∧ True) ∧ True →
                                                                                                                        J u_2 z_2 →
                                                                                                                          (y.fst = true →
                                                                                                                              (List.length y.snd.fst < (4294967281 : Nat) ∧
                                                                                                                                  List.length (bs { data := #[(46 : UInt8)] }) = (1 : Nat)) ∧
                                                                                                                                (∀ (y_1 : List Int × List Int × Bool × Unit),
                                                                                                                                    Kd.wf Kd.str y_1.fst ∧
                                                                                                                                        Kd.wf Kd.str y_1.snd.fst ∧ Kd.wf Kd.bool y_1.snd.snd.fst ∧ True →
                                                                                                                                      y_1.fst =
                                                                                                                                            (cutD
                                                                                                                                                (List.getD (bs { data := #[(46 : UInt8)] }) (0 : Nat)
                                                                                                                                                  (0 : Int))
                                                                                                                                                y.snd.fst).fst ∧
                                                                                                                                          y_1.snd.fst =
                                                                                                                                              (cutD
                                                                                                                                                    (List.getD (bs { data := #[(46 : UInt8)] }) (0 : Nat)
                                                                                                                                                      (0 : Int))
                                                                                                                                                    y.snd.fst).snd.fst ∧
                                                                                                                                            y_1.snd.snd.fst =
                                                                                                                                              (cutD
                                                                                                                                                    (List.getD (bs { data := #[(46 : UInt8)] }) (0 : Nat)
                                                                                                                                                      (0 : Int))
                                                                                                                                                    y.snd.fst).snd.snd →
                                                                                                                                        Value.bool false = Value.bool false ∧
                                                                                                                                          u.fst = u.fst ∧
                                                                                                                                            x.fst = x.fst ∧
                                                                                                                                              x.snd.fst = x.snd.fst ∧
                                                                                                                                                I (y_1.snd.snd.fst, y_1.snd.fst, y_1.fst, ())
                                                                                                                                                    ((z_2.fst.fst, ()),
                                                                                                                                                      (IntKind.wrap IntKind.i64
                                                                                                                                                          (z_2.snd.fst.fst + (1 : Int)),
                                                                                                                                                        ()),
                                                                                                                                                      (z_2.snd.snd.fst.fst, ()),
                                                                                                                                                      (z_2.snd.snd.snd.fst.fst, ()),
                                                                                                                                                      (z_2.snd.snd.snd.snd.fst.fst, ()),
                                                                                                                                                      (z_2.snd.snd.snd.snd.snd.fst.fst, ()), ()) ∧
                                                                                                                                                  μ (y_1.snd.snd.fst, y_1.snd.fst, y_1.fst, ())
                                                                                                                                                      ((z_2.fst.fst, ()),
                                                                                                                                                        (IntKind.wrap IntKind.i64
                                                                                                                                                            (z_2.snd.fst.fst + (1 : Int)),
                                                                                                                                                          ()),
                                                                                                                                                        (z_2.snd.snd.fst.fst, ()),
                                                                                                                                                        (z_2.snd.snd.snd.fst.fst, ()),
                                                                                                                                                        (z_2.snd.snd.snd.snd.fst.fst, ()),
                                                                                                                                                        (z_2.snd.snd.snd.snd.snd.fst.fst, ()), ()) <
                                                                                                                                                    μ y z) ∧
                                                                                                                                  True) ∧
                                                                                                                            (y.fst = false →
                                                                                                                              (decide
                                                                                                                                      (z_2.fst.fst =
                                                                                                                                        IntKind.wrap IntKind.i64 (z_2.snd.fst.fst + (1 : Int))) =
                                                                                                                                    true →
                                                                                                                                  True) ∧
                                                                                                                                (decide
                                                                                                                                        (z_2.fst.fst =
                                                                                                                                          IntKind.wrap IntKind.i64 (z_2.snd.fst.fst + (1 : Int))) =
                                                                                                                                      true →
                                                                                                                                    True) ∧
                                                                                                                                  ((decide
                                                                                                                                              (z_2.fst.fst =
                                                                                                                                                IntKind.wrap IntKind.i64 (z_2.snd.fst.fst + (1 : Int))) ==
                                                                                                                                            true &&
                                                                                                                                          decide
                                                                                                                                              (z_2.fst.fst =
                                                                                                                                                IntKind.wrap IntKind.i64 (z_2.snd.fst.fst + (1 : Int))) ==
                                                                                                                                            true) =
                                                                                                                                        true →
                                                                                                                                      z_2.snd.snd.snd.snd.fst.fst = false → True) ∧
                                                                                                                                    ((decide
                                                                                                                                                (z_2.fst.fst =
                                                                                                                                                  IntKind.wrap IntKind.i64
                                                                                                                                                    (z_2.snd.fst.fst + (1 : Int))) ==
                                                                                                                                              true &&
                                                                                                                                            decide
                                                                                                                                                (z_2.fst.fst =
                                                                                                                                                  IntKind.wrap IntKind.i64
                                                                                                                                                    (z_2.snd.fst.fst + (1 : Int))) ==
                                                                                                                                              true) =
                                                                                                                                          true →
                                                                                                                                        z_2.snd.snd.snd.snd.fst.fst = false → True) ∧
                                                                                                                                      ((decide
                                                                                                                                                  (z_2.fst.fst =
                                                                                                                                                    IntKind.wrap IntKind.i64
                                                                                                                                                      (z_2.snd.fst.fst + (1 : Int))) ==
                                                                                                                                                true &&
                                                                                                                                              decide
                                                                                                                                                  (z_2.fst.fst =
                                                                                                                                                    IntKind.wrap IntKind.i64
                                                                                                                                                      (z_2.snd.fst.fst + (1 : Int))) ==
                                                                                                                                                true) =
                                                                                                                                            true →
                                                                                                                                          z_2.snd.snd.snd.snd.fst.fst = false →
                                                                                                                                            (decide
                                                                                                                                                        (z_2.fst.fst =
                                                                                                                                                          IntKind.wrap IntKind.i64
                                                                                                                                                            (z_2.snd.fst.fst + (1 : Int))) ==
                                                                                                                                                      true &&
                                                                                                                                                    decide
                                                                                                                                                        (z_2.fst.fst =
                                                                                                                                                          IntKind.wrap IntKind.i64
                                                                                                                                                            (z_2.snd.fst.fst + (1 : Int))) ==
                                                                                                                                                      true &&
                                                                                                                                                  z_2.snd.snd.snd.snd.fst.fst == false) =
                                                                                                                                                true ∧
                                                                                                                                              (decide
                                                                                                                                                          (z_2.fst.fst =
                                                                                                                                                            IntKind.wrap IntKind.i64
                                                                                                                                                              (z_2.snd.fst.fst + (1 : Int))) ==
                                                                                                                                                        true &&
                                                                                                                                                      decide
                                                                                                                                                          (z_2.fst.fst =
                                                                                                                                                            IntKind.wrap IntKind.i64
                                                                                                                                                              (z_2.snd.fst.fst + (1 : Int))) ==
                                                                                                                                                        true &&
                                                                                                                                                    z_2.snd.snd.snd.snd.fst.fst == false) =
                                                                                                                                                  true ∧
                                                                                                                                                (List.length x.fst ≤ (1000000000 : Nat) ∧
                                                                                                                                                    List.length z_2.snd.snd.snd.fst.fst ≤
                                                                                                                                                      (1000000000 : Nat)) ∧
                                                                                                                                                  (∀ (y : Bool × Unit),
                                                                                                                                                      Kd.wf Kd.bool y.fst ∧ True →
                                                                                                                                                        y.fst = matchD x.fst z_2.snd.snd.snd.fst.fst →
                                                                                                                                                          (decide
                                                                                                                                                                  (z_2.fst.fst =
                                                                                                                                                                    IntKind.wrap IntKind.i64
                                                                                                                                                                      (z_2.snd.fst.fst + (1 : Int))) =
                                                                                                                                                                true →
                                                                                                                                                              True) ∧
                                                                                                                                                            (decide
                                                                                                                                                                    (z_2.fst.fst =
                                                                                                                                                                      IntKind.wrap IntKind.i64
                                                                                                                                                                        (z_2.snd.fst.fst + (1 : Int))) =
                                                                                                                                                                  true →
                                                                                                                                                                (decide
                                                                                                                                                                      (z_2.fst.fst =
                                                                                                                                                                        IntKind.wrap IntKind.i64
                                                                                                                                                                          (z_2.snd.fst.fst +
                                                                                                                                                                            (1 : Int))) ==
                                                                                                                                                                    true) =
                                                                                                                                                                  true) ∧
                                                                                                                                                              ((bif
                                                                                                                                                                        decide
                                                                                                                                                                          (z_2.fst.fst =
                                                                                                                                                                            IntKind.wrap IntKind.i64
                                                                                                                                                                              (z_2.snd.fst.fst +
                                                                                                                                                                                (1 : Int))) then
                                                                                                                                                                      !y.fst
                                                                                                                                                                    else false) =
                                                                                                                                                                    true →
                                                                                                                                                                  True ∧
                                                                                                                                                                    (∀ (y : Bool × Unit),
                                                                                                                                                                        Kd.wf Kd.bool y.fst ∧ True →
                                                                                                                                                                          y.fst = true → y.fst = true) ∧
                                                                                                                                                                      True) ∧
                                                                                                                                                                ((bif
                                                                                                                                                                        decide
                                                                                                                                                                          (z_2.fst.fst =
                                                                                                                                                                            IntKind.wrap IntKind.i64
                                                                                                                                                                              (z_2.snd.fst.fst +
                                                                                                                                                                                (1 : Int))) then
                                                                                                                                                                      !y.fst
                                                                                                                                                                    else false) =
                                                                                                                                                                    !true →
                                                                                                                                                                  false = true)) ∧
                                                                                                                                                    True) ∧
                                                                                                                                        ((decide
                                                                                                                                                    (z_2.fst.fst =
                                                                                                                                                      IntKind.wrap IntKind.i64
                                                                                                                                                        (z_2.snd.fst.fst + (1 : Int))) ==
                                                                                                                                                  true &&
                                                                                                                                                decide
                                                                                                                                                    (z_2.fst.fst =
                                                                                                                                                      IntKind.wrap IntKind.i64
                                                                                                                                                        (z_2.snd.fst.fst + (1 : Int))) ==
                                                                                                                                                  true) =
                                                                                                                                              true →
                                                                                                                                            z_2.snd.snd.snd.snd.fst.fst = !false →
                                                                                                                                              (decide
                                                                                                                                                      (z_2.fst.fst =
                                                                                                                                                        IntKind.wrap IntKind.i64
                                                                                                                                                          (z_2.snd.fst.fst + (1 : Int))) =
                                                                                                                                                    true →
                                                                                                                                                  True) ∧
                                                                                                                                                (decide
                                                                                                                                                        (z_2.fst.fst =
                                                                                                                                                          IntKind.wrap IntKind.i64
                                                                                                                                                            (z_2.snd.fst.fst + (1 : Int))) =
                                                                                                                                                      true →
                                                                                                                                                    (decide
                                                                                                                                                          (z_2.fst.fst =
                                                                                                                                                            IntKind.wrap IntKind.i64
                                                                                                                                                              (z_2.snd.fst.fst + (1 : Int))) ==
                                                                                                                                                        true) =
                                                                                                                                                      true) ∧
                                                                                                                                                  ((bif
                                                                                                                                                            decide
                                                                                                                                                              (z_2.fst.fst =
                                                                                                                                                                IntKind.wrap IntKind.i64
                                                                                                                                                                  (z_2.snd.fst.fst + (1 : Int))) then
                                                                                                                                                          true
                                                                                                                                                        else false) =
                                                                                                                                                        true →
                                                                                                                                                      True ∧
                                                                                                                                                        (∀ (y : Bool × Unit),
                                                                                                                                                            Kd.wf Kd.bool y.fst ∧ True →
                                                                                                                                                              y.fst = true → y.fst = true) ∧
                                                                                                                                                          True) ∧
                                                                                                                                                    ((bif
                                                                                                                                                            decide
                                                                                                                                                              (z_2.fst.fst =
                                                                                                                                                                IntKind.wrap IntKind.i64
                                                                                                                                                                  (z_2.snd.fst.fst + (1 : Int))) then
                                                                                                                                                          true
                                                                                                                                                        else false) =
                                                                                                                                                        !true →
                                                                                                                                                      false = true)) ∧
                                                                                                                                          ((decide
                                                                                                                                                    (z_2.fst.fst =
                                                                                                                                                      IntKind.wrap IntKind.i64
                                                                                                                                                        (z_2.snd.fst.fst + (1 : Int))) ==
                                                                                                                                                  true &&
                                                                                                                                                decide
                                                                                                                                                    (z_2.fst.fst =
                                                                                                                                                      IntKind.wrap IntKind.i64
                                                                                                                                                        (z_2.snd.fst.fst + (1 : Int))) ==
                                                                                                                                                  true) =
                                                                                                                                              false →
                                                                                                                                            (decide
                                                                                                                                                    (z_2.fst.fst =
                                                                                                                                                      IntKind.wrap IntKind.i64
                                                                                                                                                        (z_2.snd.fst.fst + (1 : Int))) =
                                                                                                                                                  true →
                                                                                                                                                False) ∧
                                                                                                                                              (decide
                                                                                                                                                    (z_2.fst.fst =
                                                                                                                                                      IntKind.wrap IntKind.i64
                                                                                                                                                        (z_2.snd.fst.fst + (1 : Int))) =
                                                                                                                                                  !true →
                                                                                                                                                false = true)))) ∧
                                                                              True)) ∧
                                            True)) ∧
            True
theorem e5 : t5 = Con.vc c_law13_HostOne GL (mkEnv ty [(18, conSem c_host_Match), (7, conSem c_host_DNS), (9, conSem c_host_Wild), (16, i16), (19, conSem c_law13_there)] [(32, i32)] [] [0, 1, 4, 5, 6, 7, 8, 9, 13, 33, 35, 40, 41, 43, 47]) {joins := [5,13,16]} Try.f5.ntmps Try.f5.results.toList (bodyOf Try.f5) := by kernel_rfl
theorem k5 : t5 := by
  unfold t5
  rintro ⟨l, m, _⟩ hx hp
  have hl : l.length ≤ 1100000 ∧ m.length ≤ 1100000 := by
    simp [ABulk, AK.bulk, Kd.bulk, sumOnes] at hp
    omega
  try dsimp +instances only [dft_int, dft_sl, dft_str]
  simp only [true_and, and_true, eq_self_iff_true, implies_true, reduceCtorEq, false_implies, true_implies, decide_eq_true_eq, decide_eq_false_iff_not, beq_self_eq_true, Bool.not_eq_true', ne_eq, Decidable.not_not, List.nil_append, List.length_singleton, List.length_cons, List.length_nil, Nat.zero_add, Nat.add_zero, Nat.mul_one, and_self, beq_iff_eq, Bool.not_true, Bool.not_false, Bool.not_eq_false', Bool.cond_false_right, Bool.and_eq_true, imp_self, Bool.not_eq_true, Bool.cond_true_left, Bool.or_eq_true]
  have hb : bs { data := #[46] } = [46] := by decide
  have hd : ([46] : List Int).getD 0 0 = 46 := rfl
  have hb2 : bs { data := #[120, 46] } = [120, 46] := by decide
  rw [hb, hd, hb2, bs_nil]
  have hl1 : ([120, 46] ++ m).length ≤ 1000000000 := by simp; omega
  refine ⟨⟨by omega, by omega⟩, ?_⟩
  rintro ⟨a, _⟩ _ ea
  simp only at ea ⊢
  intro ha
  have hM := ea.symm.trans ha
  obtain ⟨hM1, hM2⟩ := match_dns hM
  have hA := match_ahead hM
  refine ⟨fun _ _ => True, ⟨by omega, ?_⟩, ?_⟩
  · rintro ⟨b, _⟩ _ eb
    simp only at eb ⊢
    rw [hM1] at eb
    refine ⟨fun h => ⟨h, by omega, ?_⟩, fun h => by rw [eb] at h; cases h⟩
    have tail : ∀ y : Bool, y = matchD l ([120, 46] ++ m) → (y = true → False) ∧ (y = false → True) := fun y hy => And.intro (fun h => by rw [hy, hA] at h; exact Bool.noConfusion h) (fun _ => trivial)
    rintro ⟨c, _⟩ _ ec
    simp only at ec ⊢
    refine ⟨fun h => ⟨h, by omega, ?_⟩, fun h => ⟨by omega, ⟨by omega, hl1⟩, ?_⟩⟩
    · rintro ⟨d, _⟩ _ ed
      simp only at ed ⊢
      have hd2 : d = true := by
        rcases hM2 with q | q
        · rw [q] at ec; rw [ec] at h; cases h
        · rw [ed]; exact q.2
      refine ⟨fun h => ⟨h, by omega⟩, fun h => ⟨h, h, ⟨by omega, hl1⟩, ?_⟩, fun h => by rw [hd2] at h; cases h⟩
      rintro ⟨y, _⟩ _ ey
      exact tail y ey
    · rintro ⟨y, _⟩ _ ey
      exact tail y ey
  rintro ⟨u, _⟩ _ _ _
  refine ⟨by decide, by decide, by decide, ⟨by omega, rfl⟩, ?_⟩
  rintro ⟨w, re, mo, _⟩ _ ⟨e1, e2, e3⟩
  simp only at e1 e2 e3 ⊢
  have hj := congrArg List.length (cutD_join l 46)
  have hcut := labels_cut l
  rw [← e1, ← e2, ← e3] at hj hcut
  have hcl := cutD_len l 46
  rw [← e1, ← e2] at hcl
  refine ⟨fun y z => y.2.1.length ≤ l.length ∧ 0 ≤ z.1.1 ∧ z.2.1.1 = 0 ∧ z.1.1 + (if y.1 then (y.2.1.length : Int) + 1 else 0) ≤ l.length + 1 ∧ ((labelsD l).length : Int) = z.1.1 + 1 + (if y.1 then (labelsD y.2.1).length else 0 : Nat), fun y _ => if y.1 then y.2.1.length + 1 else 0, ⟨hcl.2, Int.le_refl 0, rfl, ?_, ?_⟩, ?_⟩
  · simp only
    split <;> omega
  · rw [hcut, List.length_cons]
    simp only
    split <;> simp <;> omega
  rintro ⟨mo, re, w, _⟩ ⟨⟨n, _⟩, ⟨k, _⟩, ⟨q, _⟩, _⟩ _ _ ⟨w1, n0, k0, n1, nW⟩
  simp only at w1 n0 k0 n1 nW ⊢
  subst k0
  have hn1 : n ≤ 1200000 := by split at n1 <;> omega
  have hw1 : IntKind.wrap .i64 (n + 1) = n + 1 := wrapK _ (by omega) (by omega)
  rw [hw1]
  refine ⟨fun hm => ⟨⟨by omega, rfl⟩, ?_⟩, fun hm => ⟨by decide, by decide, by decide, ⟨by omega, rfl⟩, ?_⟩⟩
  · rintro ⟨w', re', mo', _⟩ _ ⟨f1, f2, f3⟩
    simp only at f1 f2 f3 ⊢
    have hcl := cutD_len re 46
    have hj := congrArg List.length (cutD_join re 46)
    have hcut := labels_cut re
    rw [← f1, ← f2, ← f3] at hj hcut
    rw [← f1, ← f2] at hcl
    rw [hm] at n1 nW ⊢
    simp only [if_true] at n1 nW ⊢
    rw [hcut, List.length_cons] at nW
    refine ⟨⟨by omega, by omega, by trivial, ?_, ?_⟩, ?_⟩
    · split
      · rename_i hmo
        rw [hmo] at hj
        simp at hj
        omega
      · omega
    · rw [nW]
      split <;> simp <;> omega
    · split
      · rename_i hmo
        rw [hmo] at hj
        simp at hj
        omega
      · omega
  · have hN : ((labelsD l).length : Int) = n + 1 := by rw [nW, hm]; simp
    clear hcut hcl hj e1 e2 e3 w1 nW
    rintro ⟨w, re, mo, _⟩ _ ⟨e1, e2, e3⟩
    simp only at e1 e2 e3 ⊢
    have hj := cutD_join m 46
    have hmem := cutD_mem m 46
    have hcut := labels_cut m
    rw [← e1, ← e2, ← e3] at hj hcut
    rw [← e1] at hmem
    refine ⟨fun y z => z.1.1 = n + 1 ∧ 0 ≤ z.2.1.1 ∧ ((labelsD m).length : Int) = z.2.1.1 + 1 + (if y.1 then (labelsD y.2.1).length else 0 : Nat) ∧ 46 ∉ y.2.2.1 ∧ ((z.2.1.1 = 0 ∧ z.2.2.2.1.1 = [] ∧ z.2.2.2.2.1.1 = true ∧ m = y.2.2.1 ++ (if y.1 then 46 :: y.2.1 else [])) ∨
        (z.2.1.1 = 1 ∧ z.2.2.2.1.1 = [] ∧ z.2.2.2.2.1.1 = true ∧ ∃ f, 46 ∉ f ∧ m = f ++ 46 :: (y.2.2.1 ++ (if y.1 then 46 :: y.2.1 else []))) ∨
        (1 < z.2.1.1 ∧ z.2.2.2.2.1.1 = false ∧ ∃ f, 46 ∉ f ∧ m = f ++ 46 :: (z.2.2.2.1.1 ++ 46 :: (y.2.2.1 ++ (if y.1 then 46 :: y.2.1 else []))))), fun y _ => if y.1 then y.2.1.length + 1 else 0, ⟨rfl, Int.le_refl 0, ?_, hmem, .inl ⟨rfl, rfl, rfl, hj⟩⟩, ?_⟩
    · rw [hcut, List.length_cons]
      simp only
      split <;> simp <;> omega
    rintro ⟨mo, re, w, _⟩ ⟨⟨n', _⟩, ⟨k, _⟩, ⟨q2, _⟩, ⟨rest, _⟩, ⟨first, _⟩, ⟨q3, _⟩, _⟩ _ _ ⟨en, k0, kW, hw, hF⟩
    simp only at en k0 kW hw hF ⊢
    subst en
    have hLm := labels_len m
    have hk : k ≤ 1200000 := by omega
    have hw2 : IntKind.wrap .i64 (k + 1) = k + 1 := wrapK _ (by omega) (by omega)
    generalize htl : (if mo = true then 46 :: re else ([] : List Int)) = tl at hF
    have hlen : rest.length ≤ m.length ∧ w.length ≤ m.length := by
      rcases hF with ⟨_, h1, _, h2⟩ | ⟨_, h1, _, f, _, h2⟩ | ⟨_, _, f, _, h2⟩
      · have := congrArg List.length h2
        simp only [List.length_append] at this
        rw [h1]; simp; omega
      · have := congrArg List.length h2
        simp only [List.length_append, List.length_cons] at this
        rw [h1]; simp; omega
      · have := congrArg List.length h2
        simp only [List.length_append, List.length_cons] at this
        omega
    refine ⟨fun _ z => z.1.1 = n + 1 ∧ z.2.1.1 = k ∧ z.2.2.2.1.1 = (if 1 < k then rest ++ [46] else rest) ∧ z.2.2.2.2.1.1 = first, ⟨fun h => ⟨by simp; omega, rfl, rfl, (if_pos h).symm, rfl⟩, fun h => ⟨rfl, rfl, (if_neg h).symm, rfl⟩⟩, ?_⟩
    rintro _ ⟨⟨n1, _⟩, ⟨k1, _⟩, ⟨q4, _⟩, ⟨rest1, _⟩, ⟨first1, _⟩, ⟨q5, _⟩, _⟩ _ ⟨j1, j2, j3, j4⟩
    simp only at j1 j2 j3 j4 ⊢
    subst j1 j2 j4
    have hlen1 : rest1.length ≤ m.length + 1 := by
      rw [j3]
      split
      · rw [List.length_append, List.length_singleton]; omega
      · omega
    refine ⟨fun _ z => z.1.1 = n + 1 ∧ z.2.1.1 = k1 ∧ ((k1 = 0 ∧ z.2.2.2.1.1 = [] ∧ z.2.2.2.2.1.1 = true ∧ m = w ++ tl) ∨ (0 < k1 ∧ z.2.2.2.2.1.1 = false ∧ z.2.2.2.1.1.length ≤ m.length ∧ ∃ f, 46 ∉ f ∧ m = f ++ 46 :: (z.2.2.2.1.1 ++ tl))), ⟨fun h => ⟨by omega, rfl, rfl, ?_⟩, fun h => ⟨rfl, rfl, ?_⟩⟩, ?_⟩
    · rcases hF with ⟨g1, g2, g3, g4⟩ | ⟨g1, g2, g3, f, g4, g5⟩ | ⟨g1, g2, f, g4, g5⟩
      · omega
      · have e : rest1 ++ w = w := by rw [j3, if_neg (by omega), g2]; rfl
        refine .inr ⟨h, rfl, ?_, f, g4, ?_⟩
        · try simp only
          rw [e]
          exact hlen.2
        · try simp only
          rw [e]
          exact g5
      · have e : rest1 ++ w = rest ++ 46 :: w := by rw [j3, if_pos g1]; simp
        refine .inr ⟨h, rfl, ?_, f, g4, ?_⟩
        · try simp only
          rw [e]
          have := congrArg List.length g5
          simp only [List.length_append, List.length_cons] at this ⊢
          omega
        · simp only; rw [e, g5]; simp
    · rcases hF with ⟨g1, g2, g3, g4⟩ | ⟨g1, _⟩ | ⟨g1, _⟩
      · exact .inl ⟨g1, by rw [j3, if_neg (by omega), g2], g3, g4⟩
      · omega
      · omega
    rintro _ ⟨⟨n2, _⟩, ⟨k2, _⟩, ⟨q6, _⟩, ⟨rest2, _⟩, ⟨first2, _⟩, ⟨q7, _⟩, _⟩ _ ⟨i1, i2, i3⟩
    simp only at i1 i2 i3 ⊢
    subst i1 i2
    rw [hw2]
    refine ⟨fun hm => ⟨⟨?_, rfl⟩, ?_⟩, fun hm => ?_⟩
    · rw [hm] at htl
      simp only [if_true] at htl
      rcases i3 with ⟨_, _, _, g⟩ | ⟨_, _, _, f, _, g⟩
      · have := congrArg List.length g
        rw [← htl] at this
        simp only [List.length_append, List.length_cons] at this
        omega
      · have := congrArg List.length g
        rw [← htl] at this
        simp only [List.length_append, List.length_cons] at this
        omega
    · rw [hm] at htl kW
      simp only [if_true] at htl kW
      rintro ⟨w', re', mo', _⟩ _ ⟨f1, f2, f3⟩
      simp only at f1 f2 f3 ⊢
      have hj := cutD_join re 46
      have hm2 := cutD_mem re 46
      have hcut := labels_cut re
      rw [← f1, ← f2, ← f3] at hj hcut
      rw [← f1] at hm2
      rw [hcut, List.length_cons] at kW
      have hjl := congrArg List.length hj
      refine ⟨⟨by trivial, by omega, ?_, hm2, ?_⟩, ?_⟩
      · rw [kW]
        split <;> simp <;> omega
      · rcases i3 with ⟨g1, g2, g3, g4⟩ | ⟨g1, g2, g3, f, g4, g5⟩
        · exact .inr (.inl ⟨by omega, g2, g3, w, hw, by rw [g4, ← htl, ← hj]⟩)
        · exact .inr (.inr ⟨by omega, g2, f, g4, by rw [g5, ← htl, ← hj]⟩)
      · rw [hm]
        simp only [if_true]
        split
        · rename_i hmo
          rw [hmo] at hjl
          simp at hjl
          omega
        · omega
    · rw [hm] at htl kW
      simp only [Bool.false_eq_true, if_false] at htl kW
      have hc := match_count hM
      have hnk : n + 1 = k2 + 1 := by omega
      rw [hnk]
      refine ⟨fun _ h1 => ⟨⟨rfl, h1⟩, ⟨rfl, h1⟩, ⟨by omega, ?_⟩, ?_⟩, fun _ _ h => by simp at h, fun h => by simp at h⟩
      · rcases i3 with ⟨_, g2, _⟩ | ⟨_, _, g3, _⟩
        · rw [g2]; simp
        · omega
      · rintro ⟨v, _⟩ _ ev hv
        rcases i3 with ⟨g1, g2, g3, g4⟩ | ⟨g1, g2, g3, f, g4, g5⟩
        · rw [g3] at h1; cases h1
        · rw [← htl, List.append_nil] at g5
          rw [g5] at hM
          have hv2 : v = false := by rw [show v = matchD l rest2 from ev]; exact match_rest hM g4
          simp only at hv
          rw [hv2] at hv
          simp at hv
theorem h5 : c_law13_HostOne.ok Try.prog GL 5 := con_ok (H := {joins := [5,13,16]}) (mkEnv_ok (gl := GL) (l := [(18, conSem c_host_Match), (7, conSem c_host_DNS), (9, conSem c_host_Wild), (16, i16), (19, conSem c_law13_there)]) (q := [(32, i32)]) (d := []) _ tyOk (by kernel_rfl) ⟨h18.call, h7.call, h9.call, i16_ok, h19.call, trivial⟩ ⟨i32_ok, trivial⟩ trivial) (by kernel_rfl) (by kernel_rfl) (Eq.mp e5 k5)

end Go.Proofs.Ytlpbhgcndebkcaa
