/- Walks. -/
import Derived.Test.YtnlpnkejhepflaaZW
namespace Go.Proofs.Ytnlpnkejhepflaa
open Go Go.Vc Go.Proofs
set_option linter.unusedVariables false
set_option linter.unusedSimpArgs false
theorem wrap1 {i : Int} {n : Nat} (h0 : 0 ≤ i) (h : i < n) (hn : n ≤ 9223372036854775807) : IntKind.wrap .i64 (i + 1) = i + 1 := by rw [IntKind.wrap_i64]; omega
theorem getD_at {α : Type} (l : List α) (i : Nat) (d : α) (h : i < l.length) : l.getD i d = l[i] := by
  rw [List.getD_eq_getElem?_getD, List.getElem?_eq_getElem h]; rfl
theorem mem_take_succ {α : Type} {l : List α} {i : Nat} {a d : α} (h : i < l.length) : a ∈ l.take (i + 1) ↔ a ∈ l.take i ∨ a = l.getD i d := by
  rw [List.take_succ_eq_append_getElem h, getD_at l i d h, List.mem_append, List.mem_singleton]
theorem pick_step (u ds : List (List Int)) (i : Nat) (h : i < ds.length) (h8 : i ≠ 8) : PickD u (ds.drop i) i =
    if (OfD (ds.getD i [])).2 ≠ 0 then ([], (i : Int), (OfD (ds.getD i [])).2) else if (OfD (ds.getD i [])).1 ∈ u then PickD u (ds.drop (i + 1)) (i + 1) else ((OfD (ds.getD i [])).1, (i : Int), 0) := by
  rw [List.drop_eq_getElem_cons h, getD_at ds i [] h]
  conv => lhs; unfold PickD
  rw [if_neg h8]
theorem pick_end (u ds : List (List Int)) (h : ds.length ≠ 8) : PickD u (ds.drop ds.length) ds.length = ([], (ds.length : Int), 272) := by
  rw [List.drop_length]; unfold PickD; rw [if_neg h]
theorem pick_8 (u ds : List (List Int)) : PickD u (ds.drop 8) 8 = ([], 8, 271) := by
  cases ds.drop 8 <;> simp [PickD]
theorem small_at {ds : List (List Int)} (h : small ds) (i : Nat) : (ds.getD i []).length ≤ 1048576 := by
  by_cases hi : i < ds.length
  · rw [getD_at ds i [] hi]; exact h.2 _ (List.getElem_mem hi)
  · rw [List.getD_eq_getElem?_getD, List.getElem?_eq_none (by omega)]; exact Nat.zero_le _
theorem small_of {ds : List (List Int)} (h : Kd.bulk (.sl BY) ds ≤ 1048576) : small ds := by
  refine ⟨?_, fun l hl => ?_⟩
  · have := bulk_len (k := BY) (fun x => bulk_sl_pos x) ds
    omega
  · have := bulk_mem (k := BY) hl
    rw [bulk_ints] at this
    omega
def t24 : Prop :=
  ∀ (x : List (List Int) × List Int × Unit),
    Kd.wf (Kd.sl (Kd.sl (Kd.int IntKind.u8))) x.fst ∧ Kd.wf (Kd.sl (Kd.int IntKind.u8)) x.snd.fst ∧ True →
      True →
        ∃ (I : Int × Bool × Unit → Unit → Prop),
          ∃ (μ : Int × Bool × Unit → Unit → Nat),
            (x.fst = x.fst ∧ x.snd.fst = x.snd.fst ∧ I ((0 : Int), false, ()) ()) ∧
              ∀ (y : Int × Bool × Unit) (z : Unit),
                Kd.wf (Kd.int IntKind.i64) y.fst ∧ Kd.wf Kd.bool y.snd.fst ∧ True →
                  True →
                    I y z →
                      (decide (y.fst < (↑(List.length x.fst) : Int)) = true →
                          ((0 : Int) ≤ y.fst ∧ y.fst < (↑(List.length x.fst) : Int)) ∧
                            (decide (List.getD x.fst (Int.toNat y.fst) (Kd.dft (Kd.sl (Kd.int IntKind.u8))) = x.snd.fst) = true → true = decide (x.snd.fst ∈ x.fst)) ∧
                              (decide (List.getD x.fst (Int.toNat y.fst) (Kd.dft (Kd.sl (Kd.int IntKind.u8))) = x.snd.fst) = false →
                                x.fst = x.fst ∧
                                  x.snd.fst = x.snd.fst ∧
                                    I (IntKind.wrap IntKind.i64 (y.fst + (1 : Int)), y.snd.fst, ()) () ∧ μ (IntKind.wrap IntKind.i64 (y.fst + (1 : Int)), y.snd.fst, ()) () < μ y z)) ∧
                        (decide (y.fst < (↑(List.length x.fst) : Int)) = false → false = decide (x.snd.fst ∈ x.fst))
theorem e24 : t24 = Con.vc c24 (mkEnv ty [] [0, 1, 4, 5, 9, 19]) {} Try.f24.ntmps Try.f24.results.toList (bodyOf Try.f24) := by kernel_rfl
theorem k24 : t24 := by
  unfold t24
  rintro ⟨u, s, _⟩ hx hp
  have hl : u.length ≤ 9223372036854775807 := hx.1.1
  simp only [true_and, and_true, eq_self_iff_true, implies_true, reduceCtorEq, false_implies, true_implies, decide_eq_true_eq, decide_eq_false_iff_not, beq_self_eq_true, Bool.not_eq_true', ne_eq, Decidable.not_not, List.nil_append, List.length_singleton, List.length_cons, List.length_nil, Nat.zero_add, Nat.add_zero, Nat.mul_one, and_self, beq_iff_eq, Bool.not_true, Bool.not_false, Bool.not_eq_false', Bool.cond_false_right, Bool.and_eq_true, imp_self, Bool.not_eq_true, Bool.cond_true_left, Bool.or_eq_true]
  refine ⟨fun y _ => 0 ≤ y.1 ∧ y.1 ≤ u.length ∧ s ∉ u.take y.1.toNat, fun y _ => (u.length - y.1).toNat, ⟨by omega, by omega, by simp⟩, ?_⟩
  rintro ⟨i, b, _⟩ _ hw ⟨h1, h2, h3⟩
  simp only at h1 h2 h3 hw ⊢
  refine ⟨fun hc => ⟨by omega, fun e => ?_, fun e => ?_⟩, fun hc => ?_⟩
  · rw [eq_comm, decide_eq_true_eq, ← e, getD_at u _ _ (by omega)]
    exact List.getElem_mem _
  · rw [wrap1 h1 hc hl]
    refine ⟨⟨by omega, by omega, ?_⟩, by omega⟩
    rw [show (i + 1).toNat = i.toNat + 1 by omega, mem_take_succ (d := Kd.dft BY) (by omega)]
    rintro (h | h)
    · exact h3 h
    · exact e h.symm
  · have : i.toNat = u.length := by omega
    rw [this, List.take_length] at h3
    rw [eq_comm, decide_eq_false_iff_not]
    exact h3
theorem h24 : c24.ok Try.prog 24 := con_ok (E := mkEnv ty [] [0, 1, 4, 5, 9, 19]) (H := {}) (mkEnv_ok _ tyOk (by kernel_rfl) trivial) (by kernel_rfl) (by kernel_rfl) (Eq.mp e24 k24)

def t10 : Prop :=
  ∀ (x : List (List Int) × Unit),
    Kd.wf (Kd.sl (Kd.sl (Kd.int IntKind.u8))) x.fst ∧ True →
      (List.length x.fst ≤ (1048576 : Nat) ∧ ∀ (l : List Int), l ∈ x.fst → List.length l ≤ (1048576 : Nat)) →
        ∃ (I : Int × Unit → List (List Int) × Unit → Prop),
          ∃ (μ : Int × Unit → List (List Int) × Unit → Nat),
            (Value.slice none (0 : Nat) (0 : Nat) = Value.slice none (0 : Nat) (0 : Nat) ∧ x.fst = x.fst ∧ I ((0 : Int), ()) ([], ())) ∧
              ∀ (y : Int × Unit) (z : List (List Int) × Unit),
                Kd.wf (Kd.int IntKind.i64) y.fst ∧ True →
                  Kd.wf (Kd.sl (Kd.sl (Kd.int IntKind.u8))) z.fst ∧ True →
                    I y z →
                      (decide (y.fst < (↑(List.length x.fst) : Int)) = true →
                          ((0 : Int) ≤ y.fst ∧ y.fst < (↑(List.length x.fst) : Int)) ∧
                            (0 : Nat) < (1 : Nat) ∧
                              ((0 : Nat) + List.length (List.getD x.fst (Int.toNat y.fst) (Kd.dft (Kd.sl (Kd.int IntKind.u8))))) * (1 : Nat) ≤ (140737488355328 : Nat) ∧
                                (0 : Nat) + List.length (List.getD x.fst (Int.toNat y.fst) (Kd.dft (Kd.sl (Kd.int IntKind.u8)))) ≤ (9223372036854775807 : Nat) ∧
                                  (0 : Nat) < (1 : Nat) ∧
                                    (List.length z.fst + List.length [[] ++ List.getD x.fst (Int.toNat y.fst) (Kd.dft (Kd.sl (Kd.int IntKind.u8)))]) * (24 : Nat) ≤ (140737488355328 : Nat) ∧
                                      List.length z.fst + List.length [[] ++ List.getD x.fst (Int.toNat y.fst) (Kd.dft (Kd.sl (Kd.int IntKind.u8)))] ≤ (9223372036854775807 : Nat) ∧
                                        Value.slice none (0 : Nat) (0 : Nat) = Value.slice none (0 : Nat) (0 : Nat) ∧
                                          x.fst = x.fst ∧
                                            I (IntKind.wrap IntKind.i64 (y.fst + (1 : Int)), ()) (z.fst ++ [[] ++ List.getD x.fst (Int.toNat y.fst) (Kd.dft (Kd.sl (Kd.int IntKind.u8)))], ()) ∧
                                              μ (IntKind.wrap IntKind.i64 (y.fst + (1 : Int)), ()) (z.fst ++ [[] ++ List.getD x.fst (Int.toNat y.fst) (Kd.dft (Kd.sl (Kd.int IntKind.u8)))], ()) <
                                                μ y z) ∧
                        (decide (y.fst < (↑(List.length x.fst) : Int)) = false → z.fst = x.fst)
theorem e10 : t10 = Con.vc c10 (mkEnv ty [] [0, 2, 3, 4, 8]) {} Try.f10.ntmps Try.f10.results.toList (bodyOf Try.f10) := by kernel_rfl
theorem k10 : t10 := by
  unfold t10
  rintro ⟨ds, _⟩ hx hp
  have hl : ds.length ≤ 9223372036854775807 := hx.1.1
  have hp : small ds := hp
  simp only [true_and, and_true, eq_self_iff_true, implies_true, reduceCtorEq, false_implies, true_implies, decide_eq_true_eq, decide_eq_false_iff_not, beq_self_eq_true, Bool.not_eq_true', ne_eq, Decidable.not_not, List.nil_append, List.length_singleton, List.length_cons, List.length_nil, Nat.zero_add, Nat.add_zero, Nat.mul_one, and_self, beq_iff_eq, Bool.not_true, Bool.not_false, Bool.not_eq_false', Bool.cond_false_right, Bool.and_eq_true, imp_self, Bool.not_eq_true, Bool.cond_true_left, Bool.or_eq_true]
  refine ⟨fun y z => 0 ≤ y.1 ∧ y.1 ≤ ds.length ∧ z.1 = ds.take y.1.toNat, fun y _ => (ds.length - y.1).toNat, ⟨by omega, by omega, by simp⟩, ?_⟩
  rintro ⟨i, _⟩ ⟨z, _⟩ hw hw2 ⟨h1, h2, h3⟩
  simp only at h1 h2 h3 hw hw2 ⊢
  subst h3
  have hs := hp.1
  refine ⟨fun hc => ?_, fun hc => ?_⟩
  · have h4 := small_at hp i.toNat
    have e : ds.getD i.toNat (Kd.dft (Kd.sl (Kd.int .u8))) = ds.getD i.toNat [] := rfl
    rw [e, wrap1 h1 hc hl]
    have h5 : (ds.take i.toNat).length ≤ 1048576 := by rw [List.length_take]; omega
    refine ⟨by omega, by decide, by omega, by omega, by decide, by omega, by omega, ⟨by omega, by omega, ?_⟩, by omega⟩
    rw [show (i + 1).toNat = i.toNat + 1 by omega, List.take_succ_eq_append_getElem (by omega), getD_at ds _ _ (by omega)]
  · rw [List.take_of_length_le (by omega)]
theorem h10 : c10.ok Try.prog 10 := con_ok (E := mkEnv ty [] [0, 2, 3, 4, 8]) (H := {}) (mkEnv_ok _ tyOk (by kernel_rfl) trivial) (by kernel_rfl) (by kernel_rfl) (Eq.mp e10 k10)

def t14 : Prop :=
  ∀ (x : List (List Int) × List (List Int) × Unit),
    Kd.wf (Kd.sl (Kd.sl (Kd.int IntKind.u8))) x.fst ∧ Kd.wf (Kd.sl (Kd.sl (Kd.int IntKind.u8))) x.snd.fst ∧ True →
      x.fst = x.snd.fst →
        ∃ (I : Int × Bool × Unit → Unit → Prop),
          ∃ (μ : Int × Bool × Unit → Unit → Nat),
            (x.fst = x.fst ∧ x.snd.fst = x.snd.fst ∧ I ((0 : Int), false, ()) ()) ∧
              ∀ (y : Int × Bool × Unit) (z : Unit),
                Kd.wf (Kd.int IntKind.i64) y.fst ∧ Kd.wf Kd.bool y.snd.fst ∧ True →
                  True →
                    I y z →
                      (decide (y.fst < (↑(List.length x.snd.fst) : Int)) = true →
                          ((0 : Int) ≤ y.fst ∧ y.fst < (↑(List.length x.fst) : Int)) ∧
                            ((0 : Int) ≤ y.fst ∧ y.fst < (↑(List.length x.snd.fst) : Int)) ∧
                              (decide (List.getD x.fst (Int.toNat y.fst) (Kd.dft (Kd.sl (Kd.int IntKind.u8))) ≠ List.getD x.snd.fst (Int.toNat y.fst) (Kd.dft (Kd.sl (Kd.int IntKind.u8)))) = true →
                                  false = true) ∧
                                (decide (List.getD x.fst (Int.toNat y.fst) (Kd.dft (Kd.sl (Kd.int IntKind.u8))) ≠ List.getD x.snd.fst (Int.toNat y.fst) (Kd.dft (Kd.sl (Kd.int IntKind.u8)))) = false →
                                  x.fst = x.fst ∧
                                    x.snd.fst = x.snd.fst ∧
                                      I (IntKind.wrap IntKind.i64 (y.fst + (1 : Int)), y.snd.fst, ()) () ∧ μ (IntKind.wrap IntKind.i64 (y.fst + (1 : Int)), y.snd.fst, ()) () < μ y z)) ∧
                        (decide (y.fst < (↑(List.length x.snd.fst) : Int)) = false → decide ((↑(List.length x.fst) : Int) = (↑(List.length x.snd.fst) : Int)) = true)
theorem e14 : t14 = Con.vc c14 (mkEnv ty [] [0, 1, 4, 5, 9, 22]) {} Try.f14.ntmps Try.f14.results.toList (bodyOf Try.f14) := by kernel_rfl
theorem k14 : t14 := by
  unfold t14
  rintro ⟨a, b, _⟩ hx hp
  have hl : a.length ≤ 9223372036854775807 := hx.1.1
  obtain rfl : a = b := hp
  simp only [true_and, and_true, eq_self_iff_true, implies_true, reduceCtorEq, false_implies, true_implies, decide_eq_true_eq, decide_eq_false_iff_not, beq_self_eq_true, Bool.not_eq_true', ne_eq, Decidable.not_not, List.nil_append, List.length_singleton, List.length_cons, List.length_nil, Nat.zero_add, Nat.add_zero, Nat.mul_one, and_self, beq_iff_eq, Bool.not_true, Bool.not_false, Bool.not_eq_false', Bool.cond_false_right, Bool.and_eq_true, imp_self, Bool.not_eq_true, Bool.cond_true_left, Bool.or_eq_true]
  refine ⟨fun y _ => 0 ≤ y.1, fun y _ => (a.length - y.1).toNat, by omega, ?_⟩
  rintro ⟨i, b, _⟩ _ hw h1
  simp only at h1 hw ⊢
  intro hc
  rw [wrap1 h1 hc hl]
  exact ⟨by omega, by omega, fun h => h trivial, by omega, by omega⟩
theorem h14 : c14.ok Try.prog 14 := con_ok (E := mkEnv ty [] [0, 1, 4, 5, 9, 22]) (H := {}) (mkEnv_ok _ tyOk (by kernel_rfl) trivial) (by kernel_rfl) (by kernel_rfl) (Eq.mp e14 k14)

def t13 : Prop :=
  ∀ (x : List (List Int) × List (List Int) × Unit),
    Kd.wf (Kd.sl (Kd.sl (Kd.int IntKind.u8))) x.fst ∧ Kd.wf (Kd.sl (Kd.sl (Kd.int IntKind.u8))) x.snd.fst ∧ True →
      (List.length x.snd.fst ≤ (1048576 : Nat) ∧ ∀ (l : List Int), l ∈ x.snd.fst → List.length l ≤ (1048576 : Nat)) →
        ∃ (I : Int × Int × Int × Unit → List Int × Unit → Prop),
          ∃ (μ : Int × Int × Int × Unit → List Int × Unit → Nat),
            (x.fst = x.fst ∧ x.snd.fst = x.snd.fst ∧ I ((0 : Int), (0 : Int), (0 : Int), ()) ([], ())) ∧
              ∀ (y : Int × Int × Int × Unit) (z : List Int × Unit),
                Kd.wf (Kd.int IntKind.i64) y.fst ∧ Kd.wf (Kd.int IntKind.i64) y.snd.fst ∧ Kd.wf (Kd.int IntKind.i64) y.snd.snd.fst ∧ True →
                  Kd.wf (Kd.sl (Kd.int IntKind.u8)) z.fst ∧ True →
                    I y z →
                      (decide (y.fst < (8 : Int)) = true →
                          (decide (y.fst = (↑(List.length x.snd.fst) : Int)) = true → ([], y.fst, (272 : Int)) = PickD x.fst x.snd.fst (0 : Nat)) ∧
                            (decide (y.fst = (↑(List.length x.snd.fst) : Int)) = false →
                              ((0 : Int) ≤ y.fst ∧ y.fst < (↑(List.length x.snd.fst) : Int)) ∧
                                List.length (List.getD x.snd.fst (Int.toNat y.fst) (Kd.dft (Kd.sl (Kd.int IntKind.u8)))) ≤ (1000000000 : Nat) ∧
                                  ∀ (y_1 : List Int × Int × Unit),
                                    Kd.wf (Kd.sl (Kd.int IntKind.u8)) y_1.fst ∧ Kd.wf (Kd.int IntKind.i64) y_1.snd.fst ∧ True →
                                      (y_1.fst, y_1.snd.fst) = OfD (List.getD x.snd.fst (Int.toNat y.fst) (Kd.dft (Kd.sl (Kd.int IntKind.u8)))) →
                                        (decide (y_1.snd.fst ≠ (0 : Int)) = true → ([], y.fst, y_1.snd.fst) = PickD x.fst x.snd.fst (0 : Nat)) ∧
                                          (decide (y_1.snd.fst ≠ (0 : Int)) = false →
                                            True ∧
                                              ∀ (y_2 : Bool × Unit),
                                                Kd.wf Kd.bool y_2.fst ∧ True →
                                                  y_2.fst = decide (y_1.fst ∈ x.fst) →
                                                    ((!y_2.fst) = true → (y_1.fst, y.fst, (0 : Int)) = PickD x.fst x.snd.fst (0 : Nat)) ∧
                                                      ((!y_2.fst) = false →
                                                        x.fst = x.fst ∧
                                                          x.snd.fst = x.snd.fst ∧
                                                            I (IntKind.wrap IntKind.i64 (y.fst + (1 : Int)), y.snd.fst, y.snd.snd.fst, ()) (z.fst, ()) ∧
                                                              μ (IntKind.wrap IntKind.i64 (y.fst + (1 : Int)), y.snd.fst, y.snd.snd.fst, ()) (z.fst, ()) < μ y z)))) ∧
                        (decide (y.fst < (8 : Int)) = false → ([], (8 : Int), (271 : Int)) = PickD x.fst x.snd.fst (0 : Nat))
theorem e13 : t13 = Con.vc c13 (mkEnv ty [(8, conSem c8), (24, conSem c24)] [0, 1, 4, 5, 6, 7, 8, 9, 11, 17, 28, 34]) {} Try.f13.ntmps Try.f13.results.toList (bodyOf Try.f13) := by kernel_rfl
theorem k13 : t13 := by
  unfold t13
  rintro ⟨u, ds, _⟩ hx hp
  have hl := hx.2.1.1
  simp only [true_and, and_true, eq_self_iff_true, implies_true, reduceCtorEq, false_implies, true_implies, decide_eq_true_eq, decide_eq_false_iff_not, beq_self_eq_true, Bool.not_eq_true', ne_eq, Decidable.not_not, List.nil_append, List.length_singleton, List.length_cons, List.length_nil, Nat.zero_add, Nat.add_zero, Nat.mul_one, and_self, beq_iff_eq, Bool.not_true, Bool.not_false, Bool.not_eq_false', Bool.cond_false_right, Bool.and_eq_true, imp_self, Bool.not_eq_true, Bool.cond_true_left, Bool.or_eq_true]
  refine ⟨fun y z => 0 ≤ y.1 ∧ y.1 ≤ 8 ∧ y.1 ≤ ds.length ∧ PickD u (ds.drop y.1.toNat) y.1.toNat = PickD u ds 0, fun y _ => (8 - y.1).toNat, ⟨by omega, by omega, by omega, rfl⟩, ?_⟩
  rintro ⟨i, y1, y2, _⟩ ⟨z, _⟩ hw hw2 ⟨h1, h2, h3, h4⟩
  simp only at h1 h2 h3 h4 hw hw2 ⊢
  obtain ⟨n, rfl⟩ : ∃ n : Nat, i = n := ⟨i.toNat, by omega⟩
  rw [Int.toNat_natCast] at h4 ⊢
  refine ⟨fun hc => ⟨fun e => ?_, fun e => ⟨by omega, ?_, fun y3 _ ey => ⟨fun hne => ?_, fun h0 y4 _ e4 => ⟨fun hm => ?_, fun hm => ?_⟩⟩⟩⟩, fun hc => ?_⟩
  · have : n = ds.length := by omega
    subst this
    rw [← h4, pick_end u ds (by omega)]
  · have := small_at hp n
    exact Nat.le_trans this (by decide)
  · rw [← h4, pick_step u ds n (by omega) (by omega)]
    have e1 : y3.2.1 = (OfD (ds.getD n [])).2 := congrArg Prod.snd ey
    rw [if_pos (by rw [← e1]; exact hne), ← e1]
  · rw [← h4, pick_step u ds n (by omega) (by omega)]
    have e1 : y3.1 = (OfD (ds.getD n [])).1 := congrArg Prod.fst ey
    have e2 : y3.2.1 = (OfD (ds.getD n [])).2 := congrArg Prod.snd ey
    rw [hm, eq_comm, decide_eq_false_iff_not, e1] at e4
    rw [if_neg (by rw [← e2, h0]; simp), if_neg e4, e1]
  · rw [wrap1 h1 (n := 8) (by omega) (by decide)]
    refine ⟨⟨by omega, by omega, by omega, ?_⟩, by omega⟩
    rw [← h4, pick_step u ds n (by omega) (by omega)]
    have e1 : y3.1 = (OfD (ds.getD n [])).1 := congrArg Prod.fst ey
    have e2 : y3.2.1 = (OfD (ds.getD n [])).2 := congrArg Prod.snd ey
    rw [hm, eq_comm, decide_eq_true_eq, e1] at e4
    rw [if_neg (by rw [← e2, h0]; simp), if_pos e4, show ((n : Int) + 1).toNat = n + 1 by omega]
  · have : n = 8 := by omega
    subst this
    rw [← h4, pick_8]
theorem h13 : c13.ok Try.prog 13 := con_ok (E := mkEnv ty [(8, conSem c8), (24, conSem c24)] [0, 1, 4, 5, 6, 7, 8, 9, 11, 17, 28, 34]) (H := {}) (mkEnv_ok _ tyOk (by kernel_rfl) ⟨h8.call, h24.call, trivial⟩) (by kernel_rfl) (by kernel_rfl) (Eq.mp e13 k13)

noncomputable def i23 : CallSem := vcFnJ (mkEnv ty [(24, conSem c24)] [0, 1, 3, 4, 5, 12]) {} Try.f23.ntmps Try.f23.results.toList (bodyOf Try.f23) true [.dat .bool]
theorem i23_ok : CallOk Try.prog 23 i23 := inlJ_ok (E := (mkEnv ty [(24, conSem c24)] [0, 1, 3, 4, 5, 12])) {} true [.dat .bool] (mkEnv_ok _ tyOk (by kernel_rfl) ⟨h24.call, trivial⟩) (by kernel_rfl) (by kernel_rfl)

noncomputable def i12 : CallSem := vcFn (mkEnv ty [] [0, 1, 2]) {} Try.f12.ntmps Try.f12.results.toList (bodyOf Try.f12)
theorem i12_ok : CallOk Try.prog 12 i12 := inl_ok (E := (mkEnv ty [] [0, 1, 2])) {} (mkEnv_ok _ tyOk (by kernel_rfl) trivial) (by kernel_rfl) (by kernel_rfl)

noncomputable def i11 : CallSem := vcFnJ (mkEnv ty [(7, conSem c7), (21, conSem c21), (23, i23)] [0, 1, 4, 5, 6, 7, 8, 9, 10, 11, 13, 14, 15, 16, 17, 26, 29, 34, 46]) {} Try.f11.ntmps Try.f11.results.toList (bodyOf Try.f11) false [.dat BY, .dat I64, .dat I64]
theorem i11_ok : CallOk Try.prog 11 i11 := inlJ_ok (E := (mkEnv ty [(7, conSem c7), (21, conSem c21), (23, i23)] [0, 1, 4, 5, 6, 7, 8, 9, 10, 11, 13, 14, 15, 16, 17, 26, 29, 34, 46])) {} false [.dat BY, .dat I64, .dat I64] (mkEnv_ok _ tyOk (by kernel_rfl) ⟨h7.call, h21.call, i23_ok, trivial⟩) (by kernel_rfl) (by kernel_rfl)

def t4 : Prop :=
  ∀ (x : List (List Int) × List (List Int) × Unit),
    Kd.wf (Kd.sl (Kd.sl (Kd.int IntKind.u8))) x.fst ∧ Kd.wf (Kd.sl (Kd.sl (Kd.int IntKind.u8))) x.snd.fst ∧ True →
      ABulk [AK.dat (Kd.sl (Kd.sl (Kd.int IntKind.u8))), AK.dat (Kd.sl (Kd.sl (Kd.int IntKind.u8)))] x ≤ (1048576 : Nat) →
        (List.length x.snd.fst ≤ (1048576 : Nat) ∧ ∀ (l : List Int), l ∈ x.snd.fst → List.length l ≤ (1048576 : Nat)) ∧
          ∀ (y : List (List Int) × Unit),
            Kd.wf (Kd.sl (Kd.sl (Kd.int IntKind.u8))) y.fst ∧ True →
              y.fst = x.snd.fst →
                List.length [SV.dat (Kd.sl (Kd.sl (Kd.int IntKind.u8))) x.fst] ≤ (65536 : Nat) ∧
                  ∃ (J : List Int × Int × Int × Unit → Unit × Unit → Prop),
                    ((false = true →
                          y.fst = y.fst ∧ x.fst = x.fst ∧ x.fst = x.fst ∧ false = false ∧ x.fst = x.fst ∧ x.snd.fst = x.snd.fst ∧ (3 : Nat) = (3 : Nat) ∧ J ([], (0 : Int), (2 : Int), ()) ((), ())) ∧
                        (false = false →
                          ∃ (I : Int × Int × Int × Int × Unit → List (List Int) × (List (List Int) × Unit) × List Int × Unit → Prop),
                            ∃ (μ : Int × Int × Int × Int × Unit → List (List Int) × (List (List Int) × Unit) × List Int × Unit → Nat),
                              ((↑(List.length y.fst) : Int) = (↑(List.length y.fst) : Int) ∧
                                  false = false ∧
                                    x.fst = x.fst ∧ false = false ∧ x.fst = x.fst ∧ x.snd.fst = x.snd.fst ∧ I ((0 : Int), (0 : Int), (0 : Int), (0 : Int), ()) (y.fst, (x.fst, ()), [], ())) ∧
                                ∀ (y_1 : Int × Int × Int × Int × Unit) (z : List (List Int) × (List (List Int) × Unit) × List Int × Unit),
                                  Kd.wf (Kd.int IntKind.i64) y_1.fst ∧
                                      Kd.wf (Kd.int IntKind.i64) y_1.snd.fst ∧ Kd.wf (Kd.int IntKind.i64) y_1.snd.snd.fst ∧ Kd.wf (Kd.int IntKind.i64) y_1.snd.snd.snd.fst ∧ True →
                                    Kd.wf (Kd.sl (Kd.sl (Kd.int IntKind.u8))) z.fst ∧
                                        (Kd.wf (Kd.sl (Kd.sl (Kd.int IntKind.u8))) z.snd.fst.fst ∧ True) ∧ Kd.wf (Kd.sl (Kd.int IntKind.u8)) z.snd.snd.fst ∧ True →
                                      I y_1 z →
                                        (decide (y_1.fst < (↑(List.length y.fst) : Int)) = true →
                                            ((0 : Int) ≤ y_1.fst ∧ y_1.fst < (↑(List.length z.fst) : Int)) ∧
                                              List.length (List.getD z.fst (Int.toNat y_1.fst) (Kd.dft (Kd.sl (Kd.int IntKind.u8)))) ≤ (1000000000 : Nat) ∧
                                                ∀ (y_2 : List Int × Int × Unit),
                                                  Kd.wf (Kd.sl (Kd.int IntKind.u8)) y_2.fst ∧ Kd.wf (Kd.int IntKind.i64) y_2.snd.fst ∧ True →
                                                    (y_2.fst, y_2.snd.fst) = OfD (List.getD z.fst (Int.toNat y_1.fst) (Kd.dft (Kd.sl (Kd.int IntKind.u8)))) →
                                                      (decide (y_1.fst = (8 : Int)) = true →
                                                          (decide (y_1.snd.fst < (8 : Int)) = true →
                                                              z.fst = y.fst ∧
                                                                z.snd.fst.fst = x.fst ∧
                                                                  x.fst = x.fst ∧
                                                                    false = false ∧
                                                                      x.fst = x.fst ∧
                                                                        x.snd.fst = x.snd.fst ∧
                                                                          List.length
                                                                                [SV.cst (Value.slice none (0 : Nat) (0 : Nat)), SV.dat (Kd.int IntKind.i64) y_1.snd.fst,
                                                                                  SV.dat (Kd.int IntKind.i64) (272 : Int)] =
                                                                              (3 : Nat) ∧
                                                                            J ([], y_1.snd.fst, (272 : Int), ()) ((), ())) ∧
                                                            (decide (y_1.snd.fst < (8 : Int)) = false →
                                                              z.fst = y.fst ∧
                                                                z.snd.fst.fst = x.fst ∧
                                                                  x.fst = x.fst ∧
                                                                    false = false ∧
                                                                      x.fst = x.fst ∧
                                                                        x.snd.fst = x.snd.fst ∧
                                                                          List.length
                                                                                [SV.cst (Value.slice none (0 : Nat) (0 : Nat)), SV.dat (Kd.int IntKind.i64) y_1.snd.fst,
                                                                                  SV.dat (Kd.int IntKind.i64) (271 : Int)] =
                                                                              (3 : Nat) ∧
                                                                            J ([], y_1.snd.fst, (271 : Int), ()) ((), ()))) ∧
                                                        (decide (y_1.fst = (8 : Int)) = false →
                                                          (decide (y_2.snd.fst ≠ (0 : Int)) = true →
                                                              z.fst = y.fst ∧
                                                                z.snd.fst.fst = x.fst ∧
                                                                  x.fst = x.fst ∧
                                                                    false = false ∧
                                                                      x.fst = x.fst ∧
                                                                        x.snd.fst = x.snd.fst ∧
                                                                          List.length
                                                                                [SV.cst (Value.slice none (0 : Nat) (0 : Nat)), SV.dat (Kd.int IntKind.i64) y_1.fst,
                                                                                  SV.dat (Kd.int IntKind.i64) y_2.snd.fst] =
                                                                              (3 : Nat) ∧
                                                                            J ([], y_1.fst, y_2.snd.fst, ()) ((), ())) ∧
                                                            (decide (y_2.snd.fst ≠ (0 : Int)) = false →
                                                              List.length y_2.fst ≤ (1000000000 : Nat) ∧
                                                                ∀ (y_3 : List Int × Unit),
                                                                  Kd.wf (Kd.sl (Kd.int IntKind.u8)) y_3.fst ∧ True →
                                                                    y_3.fst = y_2.fst →
                                                                      ∃ (J_1 : Bool × Unit → List (List Int) × (List (List Int) × Unit) × List Int × List Int × List Int × Unit → Prop),
                                                                        (True ∧
                                                                            ∀ (y_4 : Bool × Unit),
                                                                              Kd.wf Kd.bool y_4.fst ∧ True →
                                                                                y_4.fst = decide (y_3.fst ∈ z.snd.fst.fst) →
                                                                                  ∃ (I : Int × Unit → List (List Int) × (List (List Int) × Unit) × List Int × List Int × List Int × Unit → Prop),
                                                                                    ∃ (μ : Int × Unit → List (List Int) × (List (List Int) × Unit) × List Int × List Int × List Int × Unit → Nat),
                                                                                      (y_4.fst = y_4.fst ∧
                                                                                          false = false ∧
                                                                                            decide (y_2.snd.fst ≠ (0 : Int)) = decide (y_2.snd.fst ≠ (0 : Int)) ∧
                                                                                              decide (y_1.fst = (8 : Int)) = decide (y_1.fst = (8 : Int)) ∧
                                                                                                y_2.snd.fst = y_2.snd.fst ∧
                                                                                                  List.getD z.fst (Int.toNat y_1.fst) (Kd.dft (Kd.sl (Kd.int IntKind.u8))) =
                                                                                                      List.getD z.fst (Int.toNat y_1.fst) (Kd.dft (Kd.sl (Kd.int IntKind.u8))) ∧
                                                                                                    y_1.fst = y_1.fst ∧
                                                                                                      decide (y_1.fst < (↑(List.length y.fst) : Int)) = decide (y_1.fst < (↑(List.length y.fst) : Int)) ∧
                                                                                                        y_1.fst = y_1.fst ∧
                                                                                                          (↑(List.length y.fst) : Int) = (↑(List.length y.fst) : Int) ∧
                                                                                                            y_1.snd.fst = y_1.snd.fst ∧
                                                                                                              false = false ∧
                                                                                                                y_1.snd.snd.fst = y_1.snd.snd.fst ∧
                                                                                                                  y_1.snd.snd.snd.fst = y_1.snd.snd.snd.fst ∧
                                                                                                                    x.fst = x.fst ∧
                                                                                                                      false = false ∧
                                                                                                                        x.fst = x.fst ∧
                                                                                                                          x.snd.fst = x.snd.fst ∧
                                                                                                                            I ((0 : Int), ())
                                                                                                                              (z.fst, (z.snd.fst.fst, ()), z.snd.snd.fst, y_2.fst, y_3.fst, ())) ∧
                                                                                        ∀ (y_5 : Int × Unit)
                                                                                          (z_1 : List (List Int) × (List (List Int) × Unit) × List Int × List Int × List Int × Unit),
                                                                                          Kd.wf (Kd.int IntKind.i64) y_5.fst ∧ True →
                                                                                            Kd.wf (Kd.sl (Kd.sl (Kd.int IntKind.u8))) z_1.fst ∧
                                                                                                (Kd.wf (Kd.sl (Kd.sl (Kd.int IntKind.u8))) z_1.snd.fst.fst ∧ True) ∧
                                                                                                  Kd.wf (Kd.sl (Kd.int IntKind.u8)) z_1.snd.snd.fst ∧
                                                                                                    Kd.wf (Kd.sl (Kd.int IntKind.u8)) z_1.snd.snd.snd.fst ∧
                                                                                                      Kd.wf (Kd.sl (Kd.int IntKind.u8)) z_1.snd.snd.snd.snd.fst ∧ True →
                                                                                              I y_5 z_1 →
                                                                                                (decide (y_5.fst < (↑(List.length z_1.snd.snd.snd.snd.fst) : Int)) = true →
                                                                                                    ((0 : Int) ≤ y_5.fst ∧ y_5.fst < (↑(List.length z_1.snd.snd.snd.snd.fst) : Int)) ∧
                                                                                                      ((0 : Int) ≤ y_5.fst ∧ y_5.fst < (↑(List.length z_1.snd.snd.snd.snd.fst) : Int)) ∧
                                                                                                        y_4.fst = y_4.fst ∧
                                                                                                          false = false ∧
                                                                                                            decide (y_2.snd.fst ≠ (0 : Int)) = decide (y_2.snd.fst ≠ (0 : Int)) ∧
                                                                                                              decide (y_1.fst = (8 : Int)) = decide (y_1.fst = (8 : Int)) ∧
                                                                                                                y_2.snd.fst = y_2.snd.fst ∧
                                                                                                                  List.getD z.fst (Int.toNat y_1.fst) (Kd.dft (Kd.sl (Kd.int IntKind.u8))) =
                                                                                                                      List.getD z.fst (Int.toNat y_1.fst) (Kd.dft (Kd.sl (Kd.int IntKind.u8))) ∧
                                                                                                                    y_1.fst = y_1.fst ∧
                                                                                                                      decide (y_1.fst < (↑(List.length y.fst) : Int)) =
                                                                                                                          decide (y_1.fst < (↑(List.length y.fst) : Int)) ∧
                                                                                                                        y_1.fst = y_1.fst ∧
                                                                                                                          (↑(List.length y.fst) : Int) = (↑(List.length y.fst) : Int) ∧
                                                                                                                            y_1.snd.fst = y_1.snd.fst ∧
                                                                                                                              false = false ∧
                                                                                                                                y_1.snd.snd.fst = y_1.snd.snd.fst ∧
                                                                                                                                  y_1.snd.snd.snd.fst = y_1.snd.snd.snd.fst ∧
                                                                                                                                    x.fst = x.fst ∧
                                                                                                                                      false = false ∧
                                                                                                                                        x.fst = x.fst ∧
                                                                                                                                          x.snd.fst = x.snd.fst ∧
                                                                                                                                            I (IntKind.wrap IntKind.i64 (y_5.fst + (1 : Int)), ())
                                                                                                                                                (z_1.fst, (z_1.snd.fst.fst, ()), z_1.snd.snd.fst,
                                                                                                                                                  z_1.snd.snd.snd.fst,
                                                                                                                                                  List.set z_1.snd.snd.snd.snd.fst (Int.toNat y_5.fst)
                                                                                                                                                    (IntKind.wrap IntKind.u8
                                                                                                                                                      (List.getD z_1.snd.snd.snd.snd.fst
                                                                                                                                                          (Int.toNat y_5.fst)
                                                                                                                                                          (Kd.dft (Kd.int IntKind.u8)) +
                                                                                                                                                        (1 : Int))),
                                                                                                                                                  ()) ∧
                                                                                                                                              μ (IntKind.wrap IntKind.i64 (y_5.fst + (1 : Int)), ())
                                                                                                                                                  (z_1.fst, (z_1.snd.fst.fst, ()), z_1.snd.snd.fst,
                                                                                                                                                    z_1.snd.snd.snd.fst,
                                                                                                                                                    List.set z_1.snd.snd.snd.snd.fst (Int.toNat y_5.fst)
                                                                                                                                                      (IntKind.wrap IntKind.u8
                                                                                                                                                        (List.getD z_1.snd.snd.snd.snd.fst
                                                                                                                                                            (Int.toNat y_5.fst)
                                                                                                                                                            (Kd.dft (Kd.int IntKind.u8)) +
                                                                                                                                                          (1 : Int))),
                                                                                                                                                    ()) <
                                                                                                                                                μ y_5 z_1) ∧
                                                                                                  (decide (y_5.fst < (↑(List.length z_1.snd.snd.snd.snd.fst) : Int)) = false →
                                                                                                    decide (y_2.snd.fst ≠ (0 : Int)) = decide (y_2.snd.fst ≠ (0 : Int)) ∧
                                                                                                      decide (y_1.fst = (8 : Int)) = decide (y_1.fst = (8 : Int)) ∧
                                                                                                        y_2.snd.fst = y_2.snd.fst ∧
                                                                                                          List.getD z.fst (Int.toNat y_1.fst) (Kd.dft (Kd.sl (Kd.int IntKind.u8))) =
                                                                                                              List.getD z.fst (Int.toNat y_1.fst) (Kd.dft (Kd.sl (Kd.int IntKind.u8))) ∧
                                                                                                            y_1.fst = y_1.fst ∧
                                                                                                              decide (y_1.fst < (↑(List.length y.fst) : Int)) =
                                                                                                                  decide (y_1.fst < (↑(List.length y.fst) : Int)) ∧
                                                                                                                y_1.fst = y_1.fst ∧
                                                                                                                  (↑(List.length y.fst) : Int) = (↑(List.length y.fst) : Int) ∧
                                                                                                                    y_1.snd.fst = y_1.snd.fst ∧
                                                                                                                      false = false ∧
                                                                                                                        y_1.snd.snd.fst = y_1.snd.snd.fst ∧
                                                                                                                          y_1.snd.snd.snd.fst = y_1.snd.snd.snd.fst ∧
                                                                                                                            x.fst = x.fst ∧
                                                                                                                              false = false ∧
                                                                                                                                x.fst = x.fst ∧
                                                                                                                                  x.snd.fst = x.snd.fst ∧
                                                                                                                                    List.length [SV.dat Kd.bool y_4.fst] = (1 : Nat) ∧
                                                                                                                                      J_1 (y_4.fst, ())
                                                                                                                                        (z_1.fst, (z_1.snd.fst.fst, ()), z_1.snd.snd.fst,
                                                                                                                                          z_1.snd.snd.snd.fst, z_1.snd.snd.snd.snd.fst, ()))) ∧
                                                                          ∀ (u : Bool × Unit) (z_1 : List (List Int) × (List (List Int) × Unit) × List Int × List Int × List Int × Unit),
                                                                            Kd.wf Kd.bool u.fst ∧ True →
                                                                              Kd.wf (Kd.sl (Kd.sl (Kd.int IntKind.u8))) z_1.fst ∧
                                                                                  (Kd.wf (Kd.sl (Kd.sl (Kd.int IntKind.u8))) z_1.snd.fst.fst ∧ True) ∧
                                                                                    Kd.wf (Kd.sl (Kd.int IntKind.u8)) z_1.snd.snd.fst ∧
                                                                                      Kd.wf (Kd.sl (Kd.int IntKind.u8)) z_1.snd.snd.snd.fst ∧
                                                                                        Kd.wf (Kd.sl (Kd.int IntKind.u8)) z_1.snd.snd.snd.snd.fst ∧ True →
                                                                                J_1 u z_1 →
                                                                                  ((!u.fst) = true →
                                                                                      z_1.fst = y.fst ∧
                                                                                        z_1.snd.fst.fst = x.fst ∧
                                                                                          x.fst = x.fst ∧
                                                                                            false = false ∧
                                                                                              x.fst = x.fst ∧
                                                                                                x.snd.fst = x.snd.fst ∧
                                                                                                  List.length
                                                                                                        [SV.own
                                                                                                            (List.length
                                                                                                              [some (Ob.row (22 : Nat) (Kd.sl (Kd.int IntKind.u8)) z.fst),
                                                                                                                some (Ob.var (30 : Nat) [SV.dat (Kd.sl (Kd.sl (Kd.int IntKind.u8))) z.snd.fst.fst]),
                                                                                                                some (Ob.row (5 : Nat) (Kd.int IntKind.u8) z.snd.snd.fst)]),
                                                                                                          SV.dat (Kd.int IntKind.i64) y_1.fst, SV.dat (Kd.int IntKind.i64) (0 : Int)] =
                                                                                                      (3 : Nat) ∧
                                                                                                    J (z_1.snd.snd.snd.fst, y_1.fst, (0 : Int), ()) ((), ())) ∧
                                                                                    ((!u.fst) = false →
                                                                                      (↑(List.length y.fst) : Int) = (↑(List.length y.fst) : Int) ∧
                                                                                        false = false ∧
                                                                                          x.fst = x.fst ∧
                                                                                            false = false ∧
                                                                                              x.fst = x.fst ∧
                                                                                                x.snd.fst = x.snd.fst ∧
                                                                                                  I
                                                                                                      (IntKind.wrap IntKind.i64 (y_1.fst + (1 : Int)), IntKind.wrap IntKind.i64 (y_1.snd.fst + (1 : Int)),
                                                                                                        y_1.snd.snd.fst, y_1.snd.snd.snd.fst, ())
                                                                                                      (z_1.fst, (z_1.snd.fst.fst, ()), z_1.snd.snd.fst, ()) ∧
                                                                                                    μ
                                                                                                        (IntKind.wrap IntKind.i64 (y_1.fst + (1 : Int)),
                                                                                                          IntKind.wrap IntKind.i64 (y_1.snd.fst + (1 : Int)), y_1.snd.snd.fst, y_1.snd.snd.snd.fst, ())
                                                                                                        (z_1.fst, (z_1.snd.fst.fst, ()), z_1.snd.snd.fst, ()) <
                                                                                                      μ y_1 z)))) ∧
                                          (decide (y_1.fst < (↑(List.length y.fst) : Int)) = false →
                                            (decide (y_1.snd.fst < (8 : Int)) = true →
                                                z.fst = y.fst ∧
                                                  z.snd.fst.fst = x.fst ∧
                                                    x.fst = x.fst ∧
                                                      false = false ∧
                                                        x.fst = x.fst ∧
                                                          x.snd.fst = x.snd.fst ∧
                                                            List.length
                                                                  [SV.cst (Value.slice none (0 : Nat) (0 : Nat)), SV.dat (Kd.int IntKind.i64) y_1.snd.fst, SV.dat (Kd.int IntKind.i64) (272 : Int)] =
                                                                (3 : Nat) ∧
                                                              J ([], y_1.snd.fst, (272 : Int), ()) ((), ())) ∧
                                              (decide (y_1.snd.fst < (8 : Int)) = false →
                                                z.fst = y.fst ∧
                                                  z.snd.fst.fst = x.fst ∧
                                                    x.fst = x.fst ∧
                                                      false = false ∧
                                                        x.fst = x.fst ∧
                                                          x.snd.fst = x.snd.fst ∧
                                                            List.length
                                                                  [SV.cst (Value.slice none (0 : Nat) (0 : Nat)), SV.dat (Kd.int IntKind.i64) y_1.snd.fst, SV.dat (Kd.int IntKind.i64) (271 : Int)] =
                                                                (3 : Nat) ∧
                                                              J ([], y_1.snd.fst, (271 : Int), ()) ((), ()))))) ∧
                      ∀ (u : List Int × Int × Int × Unit) (z : Unit × Unit),
                        Kd.wf (Kd.sl (Kd.int IntKind.u8)) u.fst ∧ Kd.wf (Kd.int IntKind.i64) u.snd.fst ∧ Kd.wf (Kd.int IntKind.i64) u.snd.snd.fst ∧ True →
                          True ∧ True →
                            J u z →
                              (List.length x.snd.fst ≤ (1048576 : Nat) ∧ ∀ (l : List Int), l ∈ x.snd.fst → List.length l ≤ (1048576 : Nat)) ∧
                                ∀ (y_1 : List Int × Int × Int × Unit),
                                  Kd.wf (Kd.sl (Kd.int IntKind.u8)) y_1.fst ∧ Kd.wf (Kd.int IntKind.i64) y_1.snd.fst ∧ Kd.wf (Kd.int IntKind.i64) y_1.snd.snd.fst ∧ True →
                                    (y_1.fst, y_1.snd.fst, y_1.snd.snd.fst) = PickD x.fst x.snd.fst (0 : Nat) →
                                      ∃ (J : List Int × Int × Int × Unit → Unit → Prop),
                                        ((true = true →
                                              y.fst = y.fst ∧
                                                y_1.snd.snd.fst = y_1.snd.snd.fst ∧
                                                  y_1.snd.fst = y_1.snd.fst ∧
                                                    y_1.fst = y_1.fst ∧
                                                      u.snd.snd.fst = u.snd.snd.fst ∧
                                                        u.snd.fst = u.snd.fst ∧
                                                          u.fst = u.fst ∧ false = false ∧ x.fst = x.fst ∧ x.snd.fst = x.snd.fst ∧ (3 : Nat) = (3 : Nat) ∧ J ([], (0 : Int), (2 : Int), ()) ()) ∧
                                            (true = false →
                                              ∃ (I : Int × Int × Int × Int × Unit → List (List Int) × List Int × Unit → Prop),
                                                ∃ (μ : Int × Int × Int × Int × Unit → List (List Int) × List Int × Unit → Nat),
                                                  ((↑(List.length y.fst) : Int) = (↑(List.length y.fst) : Int) ∧
                                                      true = true ∧
                                                        Value.nilFunc = Value.nilFunc ∧
                                                          y_1.snd.snd.fst = y_1.snd.snd.fst ∧
                                                            y_1.snd.fst = y_1.snd.fst ∧
                                                              y_1.fst = y_1.fst ∧
                                                                u.snd.snd.fst = u.snd.snd.fst ∧
                                                                  u.snd.fst = u.snd.fst ∧
                                                                    u.fst = u.fst ∧
                                                                      false = false ∧ x.fst = x.fst ∧ x.snd.fst = x.snd.fst ∧ I ((0 : Int), (0 : Int), (0 : Int), (0 : Int), ()) (y.fst, [], ())) ∧
                                                    ∀ (y_2 : Int × Int × Int × Int × Unit) (z : List (List Int) × List Int × Unit),
                                                      Kd.wf (Kd.int IntKind.i64) y_2.fst ∧
                                                          Kd.wf (Kd.int IntKind.i64) y_2.snd.fst ∧ Kd.wf (Kd.int IntKind.i64) y_2.snd.snd.fst ∧ Kd.wf (Kd.int IntKind.i64) y_2.snd.snd.snd.fst ∧ True →
                                                        Kd.wf (Kd.sl (Kd.sl (Kd.int IntKind.u8))) z.fst ∧ Kd.wf (Kd.sl (Kd.int IntKind.u8)) z.snd.fst ∧ True →
                                                          I y_2 z →
                                                            (decide (y_2.fst < (↑(List.length y.fst) : Int)) = true →
                                                                ((0 : Int) ≤ y_2.fst ∧ y_2.fst < (↑(List.length z.fst) : Int)) ∧
                                                                  List.length (List.getD z.fst (Int.toNat y_2.fst) (Kd.dft (Kd.sl (Kd.int IntKind.u8)))) ≤ (1000000000 : Nat) ∧
                                                                    ∀ (y_3 : List Int × Int × Unit),
                                                                      Kd.wf (Kd.sl (Kd.int IntKind.u8)) y_3.fst ∧ Kd.wf (Kd.int IntKind.i64) y_3.snd.fst ∧ True →
                                                                        (y_3.fst, y_3.snd.fst) = OfD (List.getD z.fst (Int.toNat y_2.fst) (Kd.dft (Kd.sl (Kd.int IntKind.u8)))) →
                                                                          (decide (y_2.fst = (8 : Int)) = true →
                                                                              (decide (y_2.snd.fst < (8 : Int)) = true →
                                                                                  z.fst = y.fst ∧
                                                                                    y_1.snd.snd.fst = y_1.snd.snd.fst ∧
                                                                                      y_1.snd.fst = y_1.snd.fst ∧
                                                                                        y_1.fst = y_1.fst ∧
                                                                                          u.snd.snd.fst = u.snd.snd.fst ∧
                                                                                            u.snd.fst = u.snd.fst ∧
                                                                                              u.fst = u.fst ∧
                                                                                                false = false ∧
                                                                                                  x.fst = x.fst ∧
                                                                                                    x.snd.fst = x.snd.fst ∧
                                                                                                      List.length
                                                                                                            [SV.cst (Value.slice none (0 : Nat) (0 : Nat)), SV.dat (Kd.int IntKind.i64) y_2.snd.fst,
                                                                                                              SV.dat (Kd.int IntKind.i64) (272 : Int)] =
                                                                                                          (3 : Nat) ∧
                                                                                                        J ([], y_2.snd.fst, (272 : Int), ()) ()) ∧
                                                                                (decide (y_2.snd.fst < (8 : Int)) = false →
                                                                                  z.fst = y.fst ∧
                                                                                    y_1.snd.snd.fst = y_1.snd.snd.fst ∧
                                                                                      y_1.snd.fst = y_1.snd.fst ∧
                                                                                        y_1.fst = y_1.fst ∧
                                                                                          u.snd.snd.fst = u.snd.snd.fst ∧
                                                                                            u.snd.fst = u.snd.fst ∧
                                                                                              u.fst = u.fst ∧
                                                                                                false = false ∧
                                                                                                  x.fst = x.fst ∧
                                                                                                    x.snd.fst = x.snd.fst ∧
                                                                                                      List.length
                                                                                                            [SV.cst (Value.slice none (0 : Nat) (0 : Nat)), SV.dat (Kd.int IntKind.i64) y_2.snd.fst,
                                                                                                              SV.dat (Kd.int IntKind.i64) (271 : Int)] =
                                                                                                          (3 : Nat) ∧
                                                                                                        J ([], y_2.snd.fst, (271 : Int), ()) ())) ∧
                                                                            (decide (y_2.fst = (8 : Int)) = false →
                                                                              (decide (y_3.snd.fst ≠ (0 : Int)) = true →
                                                                                  z.fst = y.fst ∧
                                                                                    y_1.snd.snd.fst = y_1.snd.snd.fst ∧
                                                                                      y_1.snd.fst = y_1.snd.fst ∧
                                                                                        y_1.fst = y_1.fst ∧
                                                                                          u.snd.snd.fst = u.snd.snd.fst ∧
                                                                                            u.snd.fst = u.snd.fst ∧
                                                                                              u.fst = u.fst ∧
                                                                                                false = false ∧
                                                                                                  x.fst = x.fst ∧
                                                                                                    x.snd.fst = x.snd.fst ∧
                                                                                                      List.length
                                                                                                            [SV.cst (Value.slice none (0 : Nat) (0 : Nat)), SV.dat (Kd.int IntKind.i64) y_2.fst,
                                                                                                              SV.dat (Kd.int IntKind.i64) y_3.snd.fst] =
                                                                                                          (3 : Nat) ∧
                                                                                                        J ([], y_2.fst, y_3.snd.fst, ()) ()) ∧
                                                                                (decide (y_3.snd.fst ≠ (0 : Int)) = false →
                                                                                  List.length y_3.fst ≤ (1000000000 : Nat) ∧
                                                                                    ∀ (y : List Int × Unit), Kd.wf (Kd.sl (Kd.int IntKind.u8)) y.fst ∧ True → y.fst = y_3.fst → False))) ∧
                                                              (decide (y_2.fst < (↑(List.length y.fst) : Int)) = false →
                                                                (decide (y_2.snd.fst < (8 : Int)) = true →
                                                                    z.fst = y.fst ∧
                                                                      y_1.snd.snd.fst = y_1.snd.snd.fst ∧
                                                                        y_1.snd.fst = y_1.snd.fst ∧
                                                                          y_1.fst = y_1.fst ∧
                                                                            u.snd.snd.fst = u.snd.snd.fst ∧
                                                                              u.snd.fst = u.snd.fst ∧
                                                                                u.fst = u.fst ∧
                                                                                  false = false ∧
                                                                                    x.fst = x.fst ∧
                                                                                      x.snd.fst = x.snd.fst ∧
                                                                                        List.length
                                                                                              [SV.cst (Value.slice none (0 : Nat) (0 : Nat)), SV.dat (Kd.int IntKind.i64) y_2.snd.fst,
                                                                                                SV.dat (Kd.int IntKind.i64) (272 : Int)] =
                                                                                            (3 : Nat) ∧
                                                                                          J ([], y_2.snd.fst, (272 : Int), ()) ()) ∧
                                                                  (decide (y_2.snd.fst < (8 : Int)) = false →
                                                                    z.fst = y.fst ∧
                                                                      y_1.snd.snd.fst = y_1.snd.snd.fst ∧
                                                                        y_1.snd.fst = y_1.snd.fst ∧
                                                                          y_1.fst = y_1.fst ∧
                                                                            u.snd.snd.fst = u.snd.snd.fst ∧
                                                                              u.snd.fst = u.snd.fst ∧
                                                                                u.fst = u.fst ∧
                                                                                  false = false ∧
                                                                                    x.fst = x.fst ∧
                                                                                      x.snd.fst = x.snd.fst ∧
                                                                                        List.length
                                                                                              [SV.cst (Value.slice none (0 : Nat) (0 : Nat)), SV.dat (Kd.int IntKind.i64) y_2.snd.fst,
                                                                                                SV.dat (Kd.int IntKind.i64) (271 : Int)] =
                                                                                            (3 : Nat) ∧
                                                                                          J ([], y_2.snd.fst, (271 : Int), ()) ())))) ∧
                                          ∀ (u_1 : List Int × Int × Int × Unit) (z : Unit),
                                            Kd.wf (Kd.sl (Kd.int IntKind.u8)) u_1.fst ∧ Kd.wf (Kd.int IntKind.i64) u_1.snd.fst ∧ Kd.wf (Kd.int IntKind.i64) u_1.snd.snd.fst ∧ True →
                                              True →
                                                J u_1 z →
                                                  (decide (u.fst = y_1.fst) = true → True) ∧
                                                    (decide (u.fst = y_1.fst) = true → True) ∧
                                                      (decide (u.fst = y_1.fst) = true → (decide (u.fst = y_1.fst) == true) = true ∧ (decide (u.fst = y_1.fst) == true) = true ∧ True) ∧
                                                        (decide (u.fst = y_1.fst) = true → (decide (u.fst = y_1.fst) == true) = true) ∧
                                                          ((bif decide (u.fst = y_1.fst) then decide (u.snd.fst = y_1.snd.fst) else false) = true → True) ∧
                                                            ((bif decide (u.fst = y_1.fst) then decide (u.snd.fst = y_1.snd.fst) else false) = true → True) ∧
                                                              ((bif decide (u.fst = y_1.fst) then decide (u.snd.fst = y_1.snd.fst) else false) = true →
                                                                  ((bif decide (u.fst = y_1.fst) then decide (u.snd.fst = y_1.snd.fst) else false) == true) = true ∧
                                                                    ((bif decide (u.fst = y_1.fst) then decide (u.snd.fst = y_1.snd.fst) else false) == true) = true ∧ True) ∧
                                                                ((bif decide (u.fst = y_1.fst) then decide (u.snd.fst = y_1.snd.fst) else false) = true →
                                                                    ((bif decide (u.fst = y_1.fst) then decide (u.snd.fst = y_1.snd.fst) else false) == true) = true) ∧
                                                                  ((bif bif decide (u.fst = y_1.fst) then decide (u.snd.fst = y_1.snd.fst) else false then decide (u.snd.snd.fst = y_1.snd.snd.fst)
                                                                        else false) =
                                                                        true →
                                                                      True) ∧
                                                                    ((bif bif decide (u.fst = y_1.fst) then decide (u.snd.fst = y_1.snd.fst) else false then decide (u.snd.snd.fst = y_1.snd.snd.fst)
                                                                          else false) =
                                                                          true →
                                                                        True) ∧
                                                                      ((bif bif decide (u.fst = y_1.fst) then decide (u.snd.fst = y_1.snd.fst) else false then decide (u.snd.snd.fst = y_1.snd.snd.fst)
                                                                            else false) =
                                                                            true →
                                                                          ((bif bif decide (u.fst = y_1.fst) then decide (u.snd.fst = y_1.snd.fst) else false then
                                                                                  decide (u.snd.snd.fst = y_1.snd.snd.fst)
                                                                                else false) ==
                                                                                true) =
                                                                              true ∧
                                                                            ((bif bif decide (u.fst = y_1.fst) then decide (u.snd.fst = y_1.snd.fst) else false then
                                                                                    decide (u.snd.snd.fst = y_1.snd.snd.fst)
                                                                                  else false) ==
                                                                                  true) =
                                                                                true ∧
                                                                              y.fst = x.snd.fst ∧
                                                                                ∀ (y : Bool × Unit),
                                                                                  Kd.wf Kd.bool y.fst ∧ True →
                                                                                    y.fst = true →
                                                                                      (y.fst = true → True) ∧
                                                                                        (y.fst = true → (y.fst == true) = true ∧ True) ∧
                                                                                          (y.fst = true → (y.fst == true) = true ∧ True) ∧
                                                                                            (y.fst = true → (y.fst == true) = true) ∧
                                                                                              ((bif y.fst then decide ((↑(List.length u_1.fst) : Int) = (0 : Int)) else false) = true → True) ∧
                                                                                                ((bif y.fst then decide ((↑(List.length u_1.fst) : Int) = (0 : Int)) else false) = true →
                                                                                                    ((bif y.fst then decide ((↑(List.length u_1.fst) : Int) = (0 : Int)) else false) == true) = true ∧
                                                                                                      True) ∧
                                                                                                  ((bif y.fst then decide ((↑(List.length u_1.fst) : Int) = (0 : Int)) else false) = true →
                                                                                                      ((bif y.fst then decide ((↑(List.length u_1.fst) : Int) = (0 : Int)) else false) == true) = true) ∧
                                                                                                    ((bif bif y.fst then decide ((↑(List.length u_1.fst) : Int) = (0 : Int)) else false then
                                                                                                            decide (u_1.snd.fst = (0 : Int))
                                                                                                          else false) =
                                                                                                          true →
                                                                                                        True) ∧
                                                                                                      ((bif bif y.fst then decide ((↑(List.length u_1.fst) : Int) = (0 : Int)) else false then
                                                                                                              decide (u_1.snd.fst = (0 : Int))
                                                                                                            else false) =
                                                                                                            true →
                                                                                                          ((bif bif y.fst then decide ((↑(List.length u_1.fst) : Int) = (0 : Int)) else false then
                                                                                                                  decide (u_1.snd.fst = (0 : Int))
                                                                                                                else false) ==
                                                                                                                true) =
                                                                                                              true ∧
                                                                                                            True) ∧
                                                                                                        ((bif bif y.fst then decide ((↑(List.length u_1.fst) : Int) = (0 : Int)) else false then
                                                                                                                decide (u_1.snd.fst = (0 : Int))
                                                                                                              else false) =
                                                                                                              true →
                                                                                                            ((bif bif y.fst then decide ((↑(List.length u_1.fst) : Int) = (0 : Int)) else false then
                                                                                                                  decide (u_1.snd.fst = (0 : Int))
                                                                                                                else false) ==
                                                                                                                true) =
                                                                                                              true) ∧
                                                                                                          ((bif
                                                                                                                    bif bif y.fst then decide ((↑(List.length u_1.fst) : Int) = (0 : Int)) else false then
                                                                                                                      decide (u_1.snd.fst = (0 : Int))
                                                                                                                    else false then
                                                                                                                  decide (u_1.snd.snd.fst = (2 : Int))
                                                                                                                else false) =
                                                                                                                true →
                                                                                                              True ∧ ∀ (y : Bool × Unit), Kd.wf Kd.bool y.fst ∧ True → y.fst = true → y.fst = true) ∧
                                                                                                            ((bif
                                                                                                                    bif bif y.fst then decide ((↑(List.length u_1.fst) : Int) = (0 : Int)) else false then
                                                                                                                      decide (u_1.snd.fst = (0 : Int))
                                                                                                                    else false then
                                                                                                                  decide (u_1.snd.snd.fst = (2 : Int))
                                                                                                                else false) =
                                                                                                                !true →
                                                                                                              false = true)) ∧
                                                                        ((bif bif decide (u.fst = y_1.fst) then decide (u.snd.fst = y_1.snd.fst) else false then decide (u.snd.snd.fst = y_1.snd.snd.fst)
                                                                            else false) =
                                                                            !true →
                                                                          (false = true → True) ∧
                                                                            (false = true → (false == true) = true ∧ True) ∧
                                                                              (false = true → (false == true) = true ∧ True) ∧
                                                                                (false = true → (false == true) = true) ∧
                                                                                  (false = true → True) ∧
                                                                                    (false = true → (false == true) = true ∧ True) ∧
                                                                                      (false = true → (false == true) = true) ∧
                                                                                        (false = true → True) ∧
                                                                                          (false = true → (false == true) = true ∧ True) ∧
                                                                                            (false = true → (false == true) = true) ∧
                                                                                              (false = true → True ∧ ∀ (y : Bool × Unit), Kd.wf Kd.bool y.fst ∧ True → y.fst = true → y.fst = true) ∧
                                                                                                (false = !true → false = true))
theorem e4 : t4 = Con.vc c4 (mkEnv ty [(10, conSem c10), (12, i12), (11, i11), (13, conSem c13), (14, conSem c14), (9, conSem c9)] [0, 1, 4, 5, 6, 7, 8, 9, 10, 11, 12, 13, 14]) {} Try.f4.ntmps Try.f4.results.toList (bodyOf Try.f4) := by kernel_rfl
theorem k4 : t4 := by
  unfold t4
  rintro ⟨u, ds, _⟩ hx hp
  have hb : Kd.bulk (.sl BY) u + (Kd.bulk (.sl BY) ds + 0) ≤ 1048576 := hp
  have hd : small ds := small_of (by omega)
  have hl : ds.length ≤ 1048576 := hd.1
  simp only [true_and, and_true, eq_self_iff_true, implies_true, reduceCtorEq, false_implies, true_implies, decide_eq_true_eq, decide_eq_false_iff_not, beq_self_eq_true, Bool.not_eq_true', ne_eq, Decidable.not_not, List.nil_append, List.length_singleton, List.length_cons, List.length_nil, Nat.zero_add, Nat.add_zero, Nat.mul_one, and_self, beq_iff_eq, Bool.not_true, Bool.not_false, Bool.not_eq_false', Bool.cond_false_right, Bool.and_eq_true, imp_self, Bool.not_eq_true, Bool.cond_true_left, Bool.or_eq_true]
  refine ⟨hd, ?_⟩
  rintro ⟨d, _⟩ hwd e
  simp only at e hwd ⊢
  subst e
  refine ⟨by decide, fun r _ => (r.1, r.2.1, r.2.2.1) = PickD u d 0, ⟨fun y z => y.1 = y.2.1 ∧ 0 ≤ y.1 ∧ y.1 ≤ 8 ∧ y.1 ≤ d.length ∧ z.1 = d ∧ z.2.1.1 = u ∧ PickD u (d.drop y.1.toNat) y.1.toNat = PickD u d 0, fun y _ => (d.length - y.1).toNat, ⟨rfl, by omega, by omega, by omega, rfl, rfl, rfl⟩, ?_⟩, ?_⟩
  · rintro ⟨i, i', y1, y2, _⟩ ⟨z, ⟨z1, _⟩, z2, _⟩ hw hw2 ⟨h0, h1, h2, h3, h4, h5, h6⟩
    simp only at h0 h1 h2 h3 h4 h5 h6 hw hw2 ⊢
    subst h0 h4 h5
    obtain ⟨n, rfl⟩ : ∃ n : Nat, i = n := ⟨i.toNat, by omega⟩
    rw [Int.toNat_natCast] at h6 ⊢
    refine ⟨fun hc => ⟨by omega, Nat.le_trans (small_at hd n) (by decide), fun y3 hw3 ey => ⟨fun e8 => ⟨fun h => by omega, fun _ => ⟨rfl, rfl, ?_⟩⟩, fun n8 => ⟨fun hne => ⟨rfl, rfl, ?_⟩, fun h0 => ⟨?_, fun y4 hw4 e4 => ?_⟩⟩⟩⟩, fun hc => ⟨fun hlt => ⟨rfl, rfl, ?_⟩, fun hge => ⟨rfl, rfl, ?_⟩⟩⟩
    · obtain rfl : n = 8 := by omega
      rw [← h6, pick_8]; rfl
    · rw [← h6, pick_step z1 z n (by omega) (by omega)]
      have e1 : y3.2.1 = (OfD (z.getD n [])).2 := congrArg Prod.snd ey
      rw [if_pos (by rw [← e1]; exact hne), ← e1]
    · have e1 : y3.1 = (OfD (z.getD n [])).1 := congrArg Prod.fst ey
      have := small_at hd n
      rw [e1]
      unfold OfD
      split
      · exact Nat.zero_le _
      · simp; omega
    · have e1 : y3.1 = (OfD (z.getD n [])).1 := congrArg Prod.fst ey
      have e2 : y3.2.1 = (OfD (z.getD n [])).2 := congrArg Prod.snd ey
      refine ⟨fun r q => r.1 = decide (y3.1 ∈ z1) ∧ q.1 = z ∧ q.2.1.1 = z1 ∧ q.2.2.2.1 = y3.1, fun y5 hw5 e5 => ⟨fun a q => 0 ≤ a.1 ∧ q.1 = z ∧ q.2.1.1 = z1 ∧ q.2.2.2.1 = y3.1, fun a q => (q.2.2.2.2.1.length - a.1).toNat, ⟨by omega, rfl, rfl, rfl⟩, ?_⟩, ?_⟩
      · rintro ⟨j, _⟩ ⟨q1, ⟨q2, _⟩, q3, q4, q5, _⟩ hwj hwq ⟨g1, g2, g3, g4⟩
        simp only at g1 g2 g3 g4 hwj hwq ⊢
        have hq5 := hwq.2.2.2.2.1
        refine ⟨fun hj => ⟨by omega, by omega, ?_, ?_⟩, fun _ => ⟨by rw [e5, e4], g2, g3, g4⟩⟩
        · rw [wrap1 g1 hj hq5]
          exact ⟨by omega, g2, g3, g4⟩
        · rw [wrap1 g1 hj hq5, List.length_set]
          omega
      · rintro ⟨b, _⟩ ⟨q1, ⟨q2, _⟩, q3, q4, q5, _⟩ hwb hwq ⟨g1, g2, g3, g4⟩
        simp only at g1 g2 g3 g4 hwb hwq ⊢
        subst g2 g3 g4
        refine ⟨fun hf => ⟨rfl, rfl, ?_⟩, fun ht => ?_⟩
        · rw [← h6, pick_step q2 q1 n (by omega) (by omega)]
          rw [hf, eq_comm, decide_eq_false_iff_not, e1] at g1
          rw [if_neg (by rw [← e2, h0]; simp), if_neg g1, e1]
        · rw [wrap1 h1 (n := 8) (by omega) (by decide)]
          refine ⟨⟨by trivial, by omega, by omega, by omega, by trivial, by trivial, ?_⟩, by omega⟩
          rw [← h6, pick_step q2 q1 n (by omega) (by omega)]
          rw [ht, eq_comm, decide_eq_true_eq, e1] at g1
          rw [if_neg (by rw [← e2, h0]; simp), if_pos g1, show ((n : Int) + 1).toNat = n + 1 by omega]
    · have : n = z.length := by omega
      subst this
      rw [← h6, pick_end z1 z (by omega)]
    · obtain rfl : n = 8 := by omega
      rw [← h6, pick_8]; rfl
  · rintro ⟨r1, r2, r3, _⟩ _ hwr hr
    refine ⟨hd, ?_⟩
    rintro ⟨s1, s2, s3, _⟩ hws es
    simp only at hr es hwr hws ⊢
    have e := hr.trans es.symm
    simp only [Prod.mk.injEq] at e
    obtain ⟨rfl, rfl, rfl⟩ := e
    refine ⟨fun t _ => t.1 = [] ∧ t.2.1 = 0 ∧ t.2.2.1 = 2, ⟨rfl, rfl, rfl⟩, ?_⟩
    rintro ⟨t1, t2, t3, _⟩ _ hwt ⟨g1, g2, g3⟩
    simp only at g1 g2 g3 ⊢
    subst g1 g2 g3
    simp
theorem h4 : c4.ok Try.prog 4 := con_ok (E := mkEnv ty [(10, conSem c10), (12, i12), (11, i11), (13, conSem c13), (14, conSem c14), (9, conSem c9)] [0, 1, 4, 5, 6, 7, 8, 9, 10, 11, 12, 13, 14]) (H := {}) (mkEnv_ok _ tyOk (by kernel_rfl) ⟨h10.call, i12_ok, i11_ok, h13.call, h14.call, h9.call, trivial⟩) (by kernel_rfl) (by kernel_rfl) (Eq.mp e4 k4)

end Go.Proofs.Ytnlpnkejhepflaa
