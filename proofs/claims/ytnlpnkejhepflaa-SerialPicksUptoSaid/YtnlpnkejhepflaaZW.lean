/- Walks. -/
import Derived.Test.YtnlpnkejhepflaaZA
namespace Go.Proofs.Ytnlpnkejhepflaa
open Go Go.Vc Go.Proofs
set_option linter.unusedVariables false
theorem bulk1 (x : ATup [AK.dat BY]) : x.1.length ≤ ABulk [AK.dat BY] x := by
  show x.1.length ≤ Kd.bulk BY x.1 + 0
  rw [bulk_ints]
  omega
theorem bits (x : Int) (h0 : 0 ≤ x) (h1 : x ≤ 255) : IntKind.wrap .u8 ↑((BitVec.ofInt 8 (IntKind.wrap .u8 ↑((BitVec.ofInt 8 x &&& BitVec.ofInt 8 63).toNat))) ||| BitVec.ofInt 8 64).toNat = x % 64 + 64 := by
  have key : ∀ n : Fin 256, IntKind.wrap .u8 ↑((BitVec.ofInt 8 (IntKind.wrap .u8 ↑((BitVec.ofInt 8 (n.val : Int) &&& BitVec.ofInt 8 63).toNat))) ||| BitVec.ofInt 8 64).toNat = (n.val : Int) % 64 + 64 := by decide +kernel
  have := key ⟨x.toNat, by omega⟩
  simpa [Int.toNat_of_nonneg h0] using this
theorem bits2 (x : Int) (h0 : 0 ≤ x) (h1 : x ≤ 255) : IntKind.wrap .u8 (64 + x.tmod 64) = x % 64 + 64 := by
  have key : ∀ n : Fin 256, IntKind.wrap .u8 (64 + (n.val : Int).tmod 64) = (n.val : Int) % 64 + 64 := by decide +kernel
  have := key ⟨x.toNat, by omega⟩
  simpa [Int.toNat_of_nonneg h0] using this
theorem byte_at {l : List Int} (h : Kd.wf BY l) (i : Nat) : 0 ≤ l.getD i 0 ∧ l.getD i 0 ≤ 255 := by
  by_cases hi : i < l.length
  · have := h.2 l[i] (List.getElem_mem hi)
    rw [List.getD_eq_getElem?_getD, List.getElem?_eq_getElem hi]
    have h2 : InR .u8 l[i] := this
    simpa [InR, IntKind.min, IntKind.max, IntKind.signed, IntKind.bits] using h2
  · rw [List.getD_eq_getElem?_getD, List.getElem?_eq_none (by omega)]
    decide
theorem take_more (l : List Int) (n : Nat) (a : Int) (h0 : 0 < n) (h : n < l.length) : (l.take n).set 0 a ++ [l.getD n 0] = (l.take (n + 1)).set 0 a := by
  rw [List.take_succ_eq_append_getElem h, List.set_append_left _ _ (by simp; omega), List.getD_eq_getElem?_getD, List.getElem?_eq_getElem h]
  rfl
def t21 : Prop :=
  ∀ (x : List Int × Unit),
    Kd.wf (Kd.sl (Kd.int IntKind.u8)) x.fst ∧ True →
      List.length x.fst ≤ (1000000000 : Nat) →
        ∀ (b : Bool),
          (b = true → x.fst = []) →
            (b = true → [] = x.fst) ∧
              (b = false →
                (0 : Nat) < (1 : Nat) ∧ ((0 : Nat) + List.length x.fst) * (1 : Nat) ≤ (140737488355328 : Nat) ∧ (0 : Nat) + List.length x.fst ≤ (9223372036854775807 : Nat) ∧ [] ++ x.fst = x.fst)
theorem e21 : t21 = Con.vc c21 (mkEnv ty [] [0, 2, 4]) {} Try.f21.ntmps Try.f21.results.toList (bodyOf Try.f21) := by kernel_rfl
theorem k21 : t21 := by
  unfold t21
  intro x hx hp b hb
  refine ⟨fun h => (hb h).symm, fun _ => ⟨by decide, by omega, by omega, rfl⟩⟩
theorem h21 : c21.ok Try.prog 21 := con_ok (E := mkEnv ty [] [0, 2, 4]) (H := {}) (mkEnv_ok _ tyOk (by kernel_rfl) trivial) (by kernel_rfl) (by kernel_rfl) (Eq.mp e21 k21)

def t7 : Prop :=
  ∀ (x : List Int × Unit),
    Kd.wf (Kd.sl (Kd.int IntKind.u8)) x.fst ∧ True →
      List.length x.fst ≤ (1000000000 : Nat) →
        (decide (↑(List.length x.fst) < (16 : Int)) = true → ([], (270 : Int)) = OfD x.fst) ∧
          (decide (↑(List.length x.fst) < (16 : Int)) = false →
            ((0 : Int) ≤ (16 : Int) ∧ (16 : Int) ≤ ↑(List.length x.fst)) ∧
              List.length (List.take (16 : Nat) x.fst) ≤ (1000000000 : Nat) ∧
                ∀ (y : List Int × Unit),
                  Kd.wf (Kd.sl (Kd.int IntKind.u8)) y.fst ∧ True →
                    y.fst = List.take (16 : Nat) x.fst →
                      ((0 : Int) ≤ (0 : Int) ∧ (0 : Int) < ↑(List.length y.fst)) ∧
                        ((0 : Int) ≤ (0 : Int) ∧ (0 : Int) < ↑(List.length y.fst)) ∧
                          (List.set y.fst (0 : Nat)
                                (IntKind.wrap IntKind.u8
                                  ↑(BitVec.toNat
                                      (BitVec.ofInt (8 : Nat)
                                          (IntKind.wrap IntKind.u8
                                            ↑(BitVec.toNat (BitVec.ofInt (8 : Nat) (List.getD y.fst (0 : Nat) (Kd.dft (Kd.int IntKind.u8))) &&& BitVec.ofInt (8 : Nat) (63 : Int)))) |||
                                        BitVec.ofInt (8 : Nat) (64 : Int)))),
                              (0 : Int)) =
                            OfD x.fst)
theorem e7 : t7 = Con.vc c7 (mkEnv ty [(21, conSem c21)] [0, 2, 3, 4, 7]) {} Try.f7.ntmps Try.f7.results.toList (bodyOf Try.f7) := by kernel_rfl
theorem k7 : t7 := by
  unfold t7
  intro x hx hp
  refine ⟨fun h => ?_, fun h => ?_⟩
  · have h := of_decide_eq_true h
    have h2 : x.1.length < 16 := by omega
    simp [OfD, h2]
  · have h := of_decide_eq_false h
    have h16 : ¬ x.1.length < 16 := by omega
    refine ⟨by omega, by simp; omega, fun y hy e => ?_⟩
    have hl : y.1.length = 16 := by rw [e]; simp; omega
    refine ⟨by omega, by omega, ?_⟩
    have hb := byte_at hx.1 0
    have e0 : y.1.getD 0 (Kd.dft (Kd.int .u8)) = x.1.getD 0 0 := by
      rw [e, List.getD_eq_getElem?_getD, List.getD_eq_getElem?_getD, List.getElem?_take]
      rfl
    rw [e0, bits _ hb.1 hb.2, e]
    simp only [OfD, if_neg h16]
theorem h7 : c7.ok Try.prog 7 := con_ok (E := mkEnv ty [(21, conSem c21)] [0, 2, 3, 4, 7]) (H := {}) (mkEnv_ok _ tyOk (by kernel_rfl) ⟨h21.call, trivial⟩) (by kernel_rfl) (by kernel_rfl) (Eq.mp e7 k7)

def t8 : Prop :=
  ∀ (x : List Int × Unit),
    Kd.wf (Kd.sl (Kd.int IntKind.u8)) x.fst ∧ True →
      List.length x.fst ≤ (1000000000 : Nat) →
        (decide (↑(List.length x.fst) < (16 : Int)) = true → ([], (270 : Int)) = OfD x.fst) ∧
          (decide (↑(List.length x.fst) < (16 : Int)) = false →
            ((0 : Int) ≤ (0 : Int) ∧ (0 : Int) < ↑(List.length x.fst)) ∧
              (64 : Int) ≠ (0 : Int) ∧
                ∃ (I : Int × Unit → List Int × Unit → Prop),
                  ∃ (μ : Int × Unit → List Int × Unit → Nat),
                    (decide (↑(List.length x.fst) < (16 : Int)) = decide (↑(List.length x.fst) < (16 : Int)) ∧
                        (0 : Int) = (0 : Int) ∧
                          Value.slice none (0 : Nat) (0 : Nat) = Value.slice none (0 : Nat) (0 : Nat) ∧
                            x.fst = x.fst ∧ I ((1 : Int), ()) ([IntKind.wrap IntKind.u8 ((64 : Int) + Int.tmod (List.getD x.fst (0 : Nat) (Kd.dft (Kd.int IntKind.u8))) (64 : Int))], ())) ∧
                      ∀ (y : Int × Unit) (z : List Int × Unit),
                        Kd.wf (Kd.int IntKind.i64) y.fst ∧ True →
                          Kd.wf (Kd.sl (Kd.int IntKind.u8)) z.fst ∧ True →
                            I y z →
                              (decide (y.fst < (16 : Int)) = true →
                                  ((0 : Int) ≤ y.fst ∧ y.fst < ↑(List.length x.fst)) ∧
                                    (0 : Nat) < (1 : Nat) ∧
                                      (List.length z.fst + List.length [List.getD x.fst (Int.toNat y.fst) (Kd.dft (Kd.int IntKind.u8))]) * (1 : Nat) ≤ (140737488355328 : Nat) ∧
                                        List.length z.fst + List.length [List.getD x.fst (Int.toNat y.fst) (Kd.dft (Kd.int IntKind.u8))] ≤ (9223372036854775807 : Nat) ∧
                                          decide (↑(List.length x.fst) < (16 : Int)) = decide (↑(List.length x.fst) < (16 : Int)) ∧
                                            (0 : Int) = (0 : Int) ∧
                                              Value.slice none (0 : Nat) (0 : Nat) = Value.slice none (0 : Nat) (0 : Nat) ∧
                                                x.fst = x.fst ∧
                                                  I (IntKind.wrap IntKind.i64 (y.fst + (1 : Int)), ()) (z.fst ++ [List.getD x.fst (Int.toNat y.fst) (Kd.dft (Kd.int IntKind.u8))], ()) ∧
                                                    μ (IntKind.wrap IntKind.i64 (y.fst + (1 : Int)), ()) (z.fst ++ [List.getD x.fst (Int.toNat y.fst) (Kd.dft (Kd.int IntKind.u8))], ()) < μ y z) ∧
                                (decide (y.fst < (16 : Int)) = false → (z.fst, (0 : Int)) = OfD x.fst))
theorem e8 : t8 = Con.vc c8 (mkEnv ty [] [0, 2, 3, 4, 5, 8, 16]) {} Try.f8.ntmps Try.f8.results.toList (bodyOf Try.f8) := by kernel_rfl
theorem k8 : t8 := by
  unfold t8
  intro x hx hp
  refine ⟨fun h => ?_, fun h => ?_⟩
  · have h := of_decide_eq_true h
    have h2 : x.1.length < 16 := by omega
    simp [OfD, h2]
  · have h := of_decide_eq_false h
    have h16 : ¬ x.1.length < 16 := by omega
    have hb := byte_at hx.1 0
    refine ⟨by omega, by decide, fun y z => 1 ≤ y.1 ∧ y.1 ≤ 16 ∧ z.1 = (x.1.take y.1.toNat).set 0 (x.1.getD 0 0 % 64 + 64), fun y _ => (16 - y.1).toNat, ⟨rfl, rfl, rfl, rfl, ?_⟩, ?_⟩
    · refine ⟨by decide, by decide, ?_⟩
      show [IntKind.wrap .u8 (64 + (x.1.getD 0 0).tmod 64)] = _
      rw [bits2 _ hb.1 hb.2]
      cases hx1 : x.1 with
      | nil => rw [hx1] at h16; simp at h16
      | cons a l => simp
    · rintro ⟨i, u⟩ ⟨z, u'⟩ hw hw2 ⟨h1, h2, rfl⟩
      simp only at h1 h2 hw hw2 ⊢
      refine ⟨fun hc => ?_, fun hc => ?_⟩
      · have hc := of_decide_eq_true hc
        have hlen : ((x.1.take i.toNat).set 0 (x.1.getD 0 0 % 64 + 64)).length ≤ 16 := by simp; omega
        have hwr : IntKind.wrap .i64 (i + 1) = i + 1 := by rw [IntKind.wrap_i64]; omega
        refine ⟨by omega, by decide, by simp only [List.length_singleton]; omega, by simp only [List.length_singleton]; omega, by trivial, by trivial, by trivial, by trivial, ?_, ?_⟩
        · rw [hwr]
          refine ⟨by omega, by omega, ?_⟩
          rw [show (i + 1).toNat = i.toNat + 1 by omega]
          exact take_more _ _ _ (by omega) (by omega)
        · rw [hwr]; omega
      · have hc := of_decide_eq_false hc
        have : i = 16 := by omega
        subst this
        simp only [OfD, if_neg h16]
        rfl
theorem h8 : c8.ok Try.prog 8 := con_ok (E := mkEnv ty [] [0, 2, 3, 4, 5, 8, 16]) (H := {}) (mkEnv_ok _ tyOk (by kernel_rfl) trivial) (by kernel_rfl) (by kernel_rfl) (Eq.mp e8 k8)

def t22 : Prop :=
  ∀ (x : Unit), True → True → true = true
theorem e22 : t22 = Con.vc c22 (mkEnv ty [] [0]) {} Try.f22.ntmps Try.f22.results.toList (bodyOf Try.f22) := by kernel_rfl
theorem k22 : t22 := by
  unfold t22
  intro _ _ _
  rfl
theorem h22 : c22.ok Try.prog 22 := con_ok (E := mkEnv ty [] [0]) (H := {}) (mkEnv_ok _ tyOk (by kernel_rfl) trivial) (by kernel_rfl) (by kernel_rfl) (Eq.mp e22 k22)

def t9 : Prop :=
  ∀ (x : Unit),
    True →
      True →
        ((0 : Int) ≤ (16 : Int) ∧ (16 : Int) ≤ (16 : Int)) ∧
          ↑(1 : Nat) * (16 : Int) ≤ (281474976710656 : Int) ∧
            (16 : Int) ≤ (9223372036854775807 : Int) ∧
              (16 : Nat) ≤ (1000000000 : Nat) ∧
                ∀ (y : List Int × Int × Unit),
                  Kd.wf (Kd.sl (Kd.int IntKind.u8)) y.fst ∧ Kd.wf (Kd.int IntKind.i64) y.snd.fst ∧ True →
                    (y.fst, y.snd.fst) = OfD (List.replicate (16 : Nat) (Kd.dft (Kd.int IntKind.u8))) →
                      (decide (y.snd.fst = (0 : Int)) = true → True) ∧
                        (decide (y.snd.fst = (0 : Int)) = true → (decide (y.snd.fst = (0 : Int)) == true) = true ∧ True) ∧
                          (decide (y.snd.fst = (0 : Int)) = true → (decide (y.snd.fst = (0 : Int)) == true) = true ∧ True) ∧
                            (decide (y.snd.fst = (0 : Int)) = true → (decide (y.snd.fst = (0 : Int)) == true) = true) ∧
                              ((bif decide (y.snd.fst = (0 : Int)) then decide (↑(List.length y.fst) = (16 : Int)) else false) = true →
                                  True ∧ ∀ (y : Bool × Unit), Kd.wf Kd.bool y.fst ∧ True → y.fst = true → y.fst = true) ∧
                                ((bif decide (y.snd.fst = (0 : Int)) then decide (↑(List.length y.fst) = (16 : Int)) else false) = !true → false = true)
theorem e9 : t9 = Con.vc c9 (mkEnv ty [(22, conSem c22), (7, conSem c7)] [0, 1, 2]) {} Try.f9.ntmps Try.f9.results.toList (bodyOf Try.f9) := by kernel_rfl
theorem k9 : t9 := by
  unfold t9
  intro _ _ _
  refine ⟨by omega, by decide, by decide, by decide, fun y hy e => ?_⟩
  have e1 : y.1 = (OfD (List.replicate 16 (Kd.dft (Kd.int .u8)))).1 := congrArg Prod.fst e
  have e2 : y.2.1 = 0 := congrArg Prod.snd e
  have e3 : y.1.length = 16 := by rw [e1]; decide
  simp [e2, e3]
theorem h9 : c9.ok Try.prog 9 := con_ok (E := mkEnv ty [(22, conSem c22), (7, conSem c7)] [0, 1, 2]) (H := {}) (mkEnv_ok _ tyOk (by kernel_rfl) ⟨h22.call, h7.call, trivial⟩) (by kernel_rfl) (by kernel_rfl) (Eq.mp e9 k9)

def t3 : Prop :=
  ∀ (x : List Int × Unit),
    Kd.wf (Kd.sl (Kd.int IntKind.u8)) x.fst ∧ True →
      ABulk [AK.dat (Kd.sl (Kd.int IntKind.u8))] x ≤ (1048576 : Nat) →
        (0 : Nat) < (1 : Nat) ∧
          ((0 : Nat) + List.length x.fst) * (1 : Nat) ≤ (140737488355328 : Nat) ∧
            (0 : Nat) + List.length x.fst ≤ (9223372036854775807 : Nat) ∧
              List.length ([] ++ x.fst) ≤ (1000000000 : Nat) ∧
                ∀ (y : List Int × Int × Unit),
                  Kd.wf (Kd.sl (Kd.int IntKind.u8)) y.fst ∧ Kd.wf (Kd.int IntKind.i64) y.snd.fst ∧ True →
                    (y.fst, y.snd.fst) = OfD ([] ++ x.fst) →
                      List.length ([] ++ x.fst) ≤ (1000000000 : Nat) ∧
                        ∀ (y_1 : List Int × Int × Unit),
                          Kd.wf (Kd.sl (Kd.int IntKind.u8)) y_1.fst ∧ Kd.wf (Kd.int IntKind.i64) y_1.snd.fst ∧ True →
                            (y_1.fst, y_1.snd.fst) = OfD ([] ++ x.fst) →
                              List.length x.fst ≤ (1000000000 : Nat) ∧
                                ∀ (y_2 : List Int × Int × Unit),
                                  Kd.wf (Kd.sl (Kd.int IntKind.u8)) y_2.fst ∧ Kd.wf (Kd.int IntKind.i64) y_2.snd.fst ∧ True →
                                    (y_2.fst, y_2.snd.fst) = OfD x.fst →
                                      (decide (y.fst ≠ y_2.fst) = false → True) ∧
                                        (decide (y.fst ≠ y_2.fst) = false → True) ∧
                                          (decide (y.fst ≠ y_2.fst) = false → (decide (y.fst ≠ y_2.fst) == false) = true ∧ (decide (y.fst ≠ y_2.fst) == false) = true ∧ True) ∧
                                            (decide (y.fst ≠ y_2.fst) = false → (decide (y.fst ≠ y_2.fst) == false) = true) ∧
                                              ((bif decide (y.fst ≠ y_2.fst) then true else decide (y.snd.fst ≠ y_2.snd.fst)) = true → false = true) ∧
                                                ((bif decide (y.fst ≠ y_2.fst) then true else decide (y.snd.fst ≠ y_2.snd.fst)) = false →
                                                  ∃ (I : Int × Unit → List Int × List Int × List Int × List Int × Unit → Prop),
                                                    ∃ (μ : Int × Unit → List Int × List Int × List Int × List Int × Unit → Nat),
                                                      (((bif decide (y.fst ≠ y_2.fst) then true else decide (y.snd.fst ≠ y_2.snd.fst)) =
                                                            bif decide (y.fst ≠ y_2.fst) then true else decide (y.snd.fst ≠ y_2.snd.fst)) ∧
                                                          y_2.snd.fst = y_2.snd.fst ∧
                                                            y.snd.fst = y.snd.fst ∧ false = false ∧ x.fst = x.fst ∧ I ((0 : Int), ()) ([] ++ x.fst, y.fst, y_1.fst, y_2.fst, ())) ∧
                                                        ∀ (y_3 : Int × Unit) (z : List Int × List Int × List Int × List Int × Unit),
                                                          Kd.wf (Kd.int IntKind.i64) y_3.fst ∧ True →
                                                            Kd.wf (Kd.sl (Kd.int IntKind.u8)) z.fst ∧
                                                                Kd.wf (Kd.sl (Kd.int IntKind.u8)) z.snd.fst ∧
                                                                  Kd.wf (Kd.sl (Kd.int IntKind.u8)) z.snd.snd.fst ∧ Kd.wf (Kd.sl (Kd.int IntKind.u8)) z.snd.snd.snd.fst ∧ True →
                                                              I y_3 z →
                                                                (decide (y_3.fst < ↑(List.length z.snd.fst)) = true →
                                                                    ((0 : Int) ≤ y_3.fst ∧ y_3.fst < ↑(List.length z.snd.fst)) ∧
                                                                      ((0 : Int) ≤ y_3.fst ∧ y_3.fst < ↑(List.length z.snd.fst)) ∧
                                                                        ((bif decide (y.fst ≠ y_2.fst) then true else decide (y.snd.fst ≠ y_2.snd.fst)) =
                                                                            bif decide (y.fst ≠ y_2.fst) then true else decide (y.snd.fst ≠ y_2.snd.fst)) ∧
                                                                          y_2.snd.fst = y_2.snd.fst ∧
                                                                            y.snd.fst = y.snd.fst ∧
                                                                              false = false ∧
                                                                                x.fst = x.fst ∧
                                                                                  I (IntKind.wrap IntKind.i64 (y_3.fst + (1 : Int)), ())
                                                                                      (z.fst,
                                                                                        List.set z.snd.fst (Int.toNat y_3.fst)
                                                                                          (IntKind.wrap IntKind.u8 (List.getD z.snd.fst (Int.toNat y_3.fst) (Kd.dft (Kd.int IntKind.u8)) + (1 : Int))),
                                                                                        z.snd.snd.fst, z.snd.snd.snd.fst, ()) ∧
                                                                                    μ (IntKind.wrap IntKind.i64 (y_3.fst + (1 : Int)), ())
                                                                                        (z.fst,
                                                                                          List.set z.snd.fst (Int.toNat y_3.fst)
                                                                                            (IntKind.wrap IntKind.u8 (List.getD z.snd.fst (Int.toNat y_3.fst) (Kd.dft (Kd.int IntKind.u8)) + (1 : Int))),
                                                                                          z.snd.snd.fst, z.snd.snd.snd.fst, ()) <
                                                                                      μ y_3 z) ∧
                                                                  (decide (y_3.fst < ↑(List.length z.snd.fst)) = false →
                                                                    (decide (z.snd.snd.fst = z.snd.snd.snd.fst) = true → True) ∧
                                                                      (decide (z.snd.snd.fst = z.snd.snd.snd.fst) = true → (decide (z.snd.snd.fst = z.snd.snd.snd.fst) == true) = true ∧ True) ∧
                                                                        (decide (z.snd.snd.fst = z.snd.snd.snd.fst) = true → True) ∧
                                                                          (decide (z.snd.snd.fst = z.snd.snd.snd.fst) = true → (decide (z.snd.snd.fst = z.snd.snd.snd.fst) == true) = true ∧ True) ∧
                                                                            (decide (z.snd.snd.fst = z.snd.snd.snd.fst) = true →
                                                                                (decide (z.snd.snd.fst = z.snd.snd.snd.fst) == true) = true ∧
                                                                                  (decide (z.snd.snd.fst = z.snd.snd.snd.fst) == true) = true ∧ True) ∧
                                                                              (decide (z.snd.snd.fst = z.snd.snd.snd.fst) = true → (decide (z.snd.snd.fst = z.snd.snd.snd.fst) == true) = true) ∧
                                                                                ((bif decide (z.snd.snd.fst = z.snd.snd.snd.fst) then decide (z.fst = x.fst) else false) = true →
                                                                                    True ∧ ∀ (y : Bool × Unit), Kd.wf Kd.bool y.fst ∧ True → y.fst = true → y.fst = true) ∧
                                                                                  ((bif decide (z.snd.snd.fst = z.snd.snd.snd.fst) then decide (z.fst = x.fst) else false) = !true → false = true)))
theorem e3 : t3 = Con.vc c3 (mkEnv ty [(9, conSem c9), (7, conSem c7), (8, conSem c8)] [0, 2, 3, 4, 5, 6, 8, 9, 10, 38, 42]) {} Try.f3.ntmps Try.f3.results.toList (bodyOf Try.f3) := by kernel_rfl
theorem k3 : t3 := by
  unfold t3
  intro x hx hp
  have hlen : x.1.length ≤ 1048576 := Nat.le_trans (bulk1 x) hp
  simp only [List.nil_append]
  refine ⟨by decide, by omega, by omega, by omega, fun y hy ey => ⟨by omega, fun y1 hy1 ey1 => ⟨by omega, fun y2 hy2 ey2 => ?_⟩⟩⟩
  have a1 : y.1 = y2.1 := (Prod.mk.injEq .. ▸ ey.trans ey2.symm).1
  have a2 : y.2.1 = y2.2.1 := (Prod.mk.injEq .. ▸ ey.trans ey2.symm).2
  have a3 : y1.1 = y2.1 := (Prod.mk.injEq .. ▸ ey1.trans ey2.symm).1
  simp only [a1, a2, ne_eq, not_true_eq_false, decide_false, cond_false, implies_true, true_and, beq_self_eq_true, and_self]
  refine ⟨fun h => h, fun _ => ⟨fun y z => 0 ≤ y.1 ∧ z.1 = x.1 ∧ z.2.2.1 = y2.1 ∧ z.2.2.2.1 = y2.1, fun y z => (z.2.1.length - y.1).toNat, ⟨by decide, rfl, a3, rfl⟩, ?_⟩⟩
  rintro ⟨i, u⟩ ⟨z1, z2, z3, z4, u'⟩ hw hw2 ⟨h1, rfl, rfl, h4⟩
  simp only at h1 h4 hw hw2 ⊢
  subst h4
  refine ⟨fun hc => ?_, fun hc => ?_⟩
  · have hc := of_decide_eq_true hc
    have hl := hw2.2.1.1
    have hwr : IntKind.wrap .i64 (i + 1) = i + 1 := by rw [IntKind.wrap_i64]; omega
    refine ⟨by omega, by omega, ⟨by rw [hwr]; omega, by trivial, by trivial, by trivial⟩, ?_⟩
    rw [hwr, List.length_set]
    omega
  · simp
theorem h3 : c3.ok Try.prog 3 := con_ok (E := mkEnv ty [(9, conSem c9), (7, conSem c7), (8, conSem c8)] [0, 2, 3, 4, 5, 6, 8, 9, 10, 38, 42]) (H := {}) (mkEnv_ok _ tyOk (by kernel_rfl) ⟨h9.call, h7.call, h8.call, trivial⟩) (by kernel_rfl) (by kernel_rfl) (Eq.mp e3 k3)

end Go.Proofs.Ytnlpnkejhepflaa
