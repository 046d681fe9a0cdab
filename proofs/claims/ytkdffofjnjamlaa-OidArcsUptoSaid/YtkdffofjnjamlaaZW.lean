/- Walks. -/
import Derived.Test.YtkdffofjnjamlaaZA
set_option linter.unusedVariables false
set_option linter.unusedSimpArgs false
namespace Go.Proofs.Ytkdffofjnjamlaa
open Go Go.Vc Go.Proofs
set_option linter.unusedVariables false
set_option linter.unusedSimpArgs false
theorem wrap1 {i : Int} {n : Nat} (h0 : 0 ≤ i) (h : i < n) (hn : n ≤ 9223372036854775807) : IntKind.wrap .i64 (i + 1) = i + 1 := by rw [IntKind.wrap_i64]; omega
theorem getD_at {α : Type} (l : List α) (i : Nat) (d : α) (h : i < l.length) : l.getD i d = l[i] := by
  rw [List.getD_eq_getElem?_getD, List.getElem?_eq_getElem h]; rfl
theorem cmp_step (a b : List Int) (i : Nat) (ha : i < a.length) (hb : i < b.length) : CmpD (a.drop i) (b.drop i) = if cmpI (a.getD i 0) (b.getD i 0) = 0 then CmpD (a.drop (i + 1)) (b.drop (i + 1)) else cmpI (a.getD i 0) (b.getD i 0) := by
  rw [List.drop_eq_getElem_cons ha, List.drop_eq_getElem_cons hb, getD_at a i 0 ha, getD_at b i 0 hb]
  rfl
theorem cmp_gt (a b : List Int) (i : Nat) (ha : i < a.length) (hb : b.length ≤ i) : CmpD (a.drop i) (b.drop i) = 1 := by
  rw [List.drop_eq_getElem_cons ha, List.drop_of_length_le hb]; rfl
theorem cmp_lt (a b : List Int) (i : Nat) (ha : a.length ≤ i) (hb : i < b.length) : CmpD (a.drop i) (b.drop i) = -1 := by
  rw [List.drop_eq_getElem_cons hb, List.drop_of_length_le ha]; rfl
theorem cmp_eq (a b : List Int) (i : Nat) (ha : a.length ≤ i) (hb : b.length ≤ i) : CmpD (a.drop i) (b.drop i) = 0 := by
  rw [List.drop_of_length_le hb, List.drop_of_length_le ha]; rfl
theorem cmpI_zero {a b : Int} : cmpI a b = 0 ↔ a = b := by
  unfold cmpI; split
  · omega
  · split <;> omega
theorem cmp_zero : ∀ {a b : List Int}, CmpD a b = 0 ↔ a = b
  | [], [] => by simp [CmpD]
  | [], _ :: _ => by simp [CmpD]
  | _ :: _, [] => by simp [CmpD]
  | a :: l, b :: r => by
    simp only [CmpD]
    split
    · rename_i h
      rw [cmp_zero, cmpI_zero.1 h]
      simp
    · rename_i h
      exact ⟨fun e => absurd e h, fun e => absurd (cmpI_zero.2 (List.cons.inj e).1) h⟩
theorem take_eq_step {a b : List Int} {i : Nat} (hl : a.length = b.length) (h : a.take i = b.take i) (ha : i < a.length) (he : a.getD i 0 = b.getD i 0) : a.take (i + 1) = b.take (i + 1) := by
  rw [List.take_succ_eq_append_getElem ha, List.take_succ_eq_append_getElem (by omega), h]
  rw [getD_at a i 0 ha, getD_at b i 0 (by omega)] at he
  rw [he]
theorem wrapK (i : Int) (h0 : -9000000000000000000 ≤ i) (h1 : i ≤ 9000000000000000000) : IntKind.wrap .i64 i = i := by rw [IntKind.wrap_i64]; omega
theorem wrapK' (i : Int) (h0 : -9223372036854775808 ≤ i) (h1 : i ≤ 9223372036854775807) : IntKind.wrap .i64 i = i := by rw [IntKind.wrap_i64]; omega
theorem sumOnes {α : Type} (l : List α) : (l.map fun _ => 1).sum = l.length := by
  induction l with
  | nil => rfl
  | cons _ _ ih => simp [ih]; omega
theorem byteMem {l : List Int} (h : Kd.wf BY l) : ∀ b ∈ l, 0 ≤ b ∧ b ≤ 255 := fun b hb => by
  have h2 : InR .u8 b := h.2 b hb
  simpa [InR, IntKind.min, IntKind.max, IntKind.signed, IntKind.bits] using h2
theorem byteGet {l : List Int} (h : Kd.wf BY l) (i : Nat) : 0 ≤ l.getD i 0 ∧ l.getD i 0 ≤ 255 := by
  by_cases hi : i < l.length
  · rw [List.getD_eq_getElem?_getD, List.getElem?_eq_getElem hi]
    exact byteMem h _ (List.getElem_mem hi)
  · rw [List.getD_eq_getElem?_getD, List.getElem?_eq_none (by omega)]
    decide
theorem head_drop (l : List Int) (n : Nat) : (l.drop n).headD 0 = l.getD n 0 := by
  rw [List.headD_eq_head?_getD, List.head?_drop, List.getD_eq_getElem?_getD]
theorem drop_cons (l : List Int) (n : Nat) (h : n < l.length) : l.drop n = l.getD n 0 :: l.drop (n + 1) := by
  rw [List.drop_eq_getElem_cons h, List.getD_eq_getElem?_getD, List.getElem?_eq_getElem h]
  rfl
theorem next_go (l : List Int) (i : Int) (h : l.getD i.toNat 0 ≠ 128) : NextD l i = nextR (l.drop i.toNat) 0 i := by
  rw [NextD, head_drop, if_neg h]
theorem next_30 (l : List Int) (i : Int) (h : l.getD i.toNat 0 = 128) : NextD l i = (0, 0, 30) := by
  rw [NextD, head_drop, if_pos h]
theorem nextR_ok : ∀ (s : List Int) (v p : Int), (∀ b ∈ s, 0 ≤ b ∧ b ≤ 255) → 0 ≤ v → (nextR s v p).2.2 = 0 → 0 ≤ (nextR s v p).1 ∧ (nextR s v p).1 ≤ 2147483647 ∧ p < (nextR s v p).2.1 ∧ (nextR s v p).2.1 ≤ p + s.length
  | [], _, _, _, _, h => by simp [nextR] at h
  | b :: r, v, p, hb, hv, h => by
    have h0 := hb b (by simp)
    have hl : ((b :: r).length : Int) = r.length + 1 := by simp
    rw [hl]
    unfold nextR at h ⊢
    by_cases h1 : 2147483647 < v * 128 + b % 128
    · rw [if_pos h1] at h; simp at h
    · rw [if_neg h1] at h ⊢
      by_cases h2 : b < 128
      · rw [if_pos h2]
        refine ⟨by show 0 ≤ v * 128 + b % 128; omega, by show v * 128 + b % 128 ≤ _; omega, by show p < p + 1; omega, by show p + 1 ≤ _; omega⟩
      · rw [if_neg h2] at h ⊢
        have ih := nextR_ok r (v * 128 + b % 128) (p + 1) (fun x hx => hb x (List.mem_cons_of_mem _ hx)) (by omega) h
        omega
theorem next_ok {l : List Int} (hw : Kd.wf BY l) (i : Int) (h0 : 0 ≤ i) (h : (NextD l i).2.2 = 0) : 0 ≤ (NextD l i).1 ∧ (NextD l i).1 ≤ 2147483647 ∧ i < (NextD l i).2.1 := by
  by_cases h1 : l.getD i.toNat 0 = 128
  · rw [next_30 l i h1] at h; simp at h
  · rw [next_go l i h1] at h ⊢
    have := nextR_ok (l.drop i.toNat) 0 i (fun b hb => byteMem hw b (List.mem_of_mem_drop hb)) (by decide) h
    omega
theorem dec_step (l : List Int) (m : Nat) (acc : List Int) (i : Int) (h : i < l.length) :
    decR l (m + 1) acc i = if acc.length = 20 then ([], 32) else if (NextD l i).2.2 ≠ 0 then ([], (NextD l i).2.2) else decR l m (acc ++ [(NextD l i).1]) (NextD l i).2.1 := by
  rw [decR, if_pos h]
theorem dec_end (l : List Int) (n : Nat) (acc : List Int) (i : Int) (h : ¬ i < l.length) : decR l n acc i = (acc, 0) := by
  cases n with
  | zero => rfl
  | succ n => rw [decR, if_neg h]
theorem dec_len (l : List Int) : ∀ (n : Nat) (acc : List Int) (i : Int), acc.length ≤ 20 → (decR l n acc i).1.length ≤ 20
  | 0, acc, _, h => h
  | n + 1, acc, i, h => by
    rw [decR]
    split
    · split
      · simp
      · split
        · simp
        · exact dec_len l n _ _ (by simp; omega)
    · exact h
theorem split_len (v : Int) : (SplitD v).length = 2 := by
  unfold SplitD
  split
  · rfl
  · split <;> rfl
theorem and7 (b : Int) (h : 0 ≤ b ∧ b ≤ 255) : IntKind.wrap .u8 ↑(BitVec.ofInt 8 b &&& BitVec.ofInt 8 127).toNat = b % 128 := by
  have key : ∀ b : Fin 256, IntKind.wrap .u8 ↑(BitVec.ofInt 8 (b.val : Int) &&& BitVec.ofInt 8 127).toNat = (b.val : Int) % 128 := by decide +kernel
  have := key ⟨b.toNat, by omega⟩
  simpa [Int.toNat_of_nonneg h.1] using this
theorem or7 (v b : Int) (hb : 0 ≤ b ∧ b ≤ 255) (hv : 0 ≤ v ∧ v ≤ 2147483647) :
    IntKind.wrap .i64 ↑(BitVec.ofInt 64 (IntKind.wrap .i64 (v * 2 ^ 7)) ||| BitVec.ofInt 64 (IntKind.wrap .i64 (IntKind.wrap .u8 ↑(BitVec.ofInt 8 b &&& BitVec.ofInt 8 127).toNat))).toNat = v * 128 + b % 128 := by
  have w1 : IntKind.wrap .i64 (v * 2 ^ 7) = v * 128 := wrapK _ (by omega) (by omega)
  rw [and7 b hb, w1, wrapK (b % 128) (by omega) (by omega), BitVec.toNat_or, BitVec.toNat_ofInt, BitVec.toNat_ofInt]
  have e1 : (v * 128 % ((2 ^ 64 : Nat) : Int)).toNat = v.toNat <<< 7 := by rw [Nat.shiftLeft_eq]; omega
  have e2 : (b % 128 % ((2 ^ 64 : Nat) : Int)).toNat = (b % 128).toNat := by omega
  rw [e1, e2, ← Nat.shiftLeft_add_eq_or_of_lt (by omega), Nat.shiftLeft_eq, wrapK _ (by omega) (by omega)]
  omega
def t9 : Prop :=
  ∀ (x : Unit), True → True → true = true
theorem e9 : t9 = Con.vc c9 GL (mkEnv ty [] [] [] [0]) {} Try.f9.ntmps Try.f9.results.toList (bodyOf Try.f9) := by kernel_rfl
theorem k9 : t9 := by
  unfold t9
  intro _ _ _
  rfl
theorem h9 : c9.ok Try.prog GL 9 := con_ok (H := {}) (mkEnv_ok (gl := GL) (l := []) (q := []) (d := []) _ tyOk (by kernel_rfl) trivial trivial trivial) (by kernel_rfl) (by kernel_rfl) (Eq.mp e9 k9)

def t15 : Prop :=
  ∀ (x : List Int × List Int × Unit),
    Kd.wf (Kd.sl (Kd.int IntKind.i64)) x.fst ∧ Kd.wf (Kd.sl (Kd.int IntKind.i64)) x.snd.fst ∧ True →
      True →
        ∃ (I : Int × Int × Unit → Unit → Prop),
          ∃ (μ : Int × Int × Unit → Unit → Nat),
            (x.fst = x.fst ∧ x.snd.fst = x.snd.fst ∧ I ((0 : Int), (0 : Int), ()) ()) ∧
              ∀ (y : Int × Int × Unit) (z : Unit),
                Kd.wf (Kd.int IntKind.i64) y.fst ∧ Kd.wf (Kd.int IntKind.i64) y.snd.fst ∧ True →
                  True →
                    I y z →
                      (decide (y.fst < (↑(List.length x.fst) : Int)) = true → True) ∧
                        (decide (y.fst < (↑(List.length x.fst) : Int)) = true → True) ∧
                          (decide (y.fst < (↑(List.length x.fst) : Int)) = true → (decide (y.fst < (↑(List.length x.fst) : Int)) == true) = true ∧ True) ∧
                            (decide (y.fst < (↑(List.length x.fst) : Int)) = true →
                                (decide (y.fst < (↑(List.length x.fst) : Int)) == true) = true ∧ (decide (y.fst < (↑(List.length x.fst) : Int)) == true) = true ∧ True) ∧
                              (decide (y.fst < (↑(List.length x.fst) : Int)) = true → (decide (y.fst < (↑(List.length x.fst) : Int)) == true) = true) ∧
                                ((bif decide (y.fst < (↑(List.length x.fst) : Int)) then decide (y.fst < (↑(List.length x.snd.fst) : Int)) else false) = true →
                                    ((0 : Int) ≤ y.fst ∧ y.fst < (↑(List.length x.fst) : Int)) ∧
                                      ((0 : Int) ≤ y.fst ∧ y.fst < (↑(List.length x.snd.fst) : Int)) ∧
                                        (decide (List.getD x.fst (Int.toNat y.fst) (Kd.dft (Kd.int IntKind.i64)) < List.getD x.snd.fst (Int.toNat y.fst) (Kd.dft (Kd.int IntKind.i64))) = true →
                                            (-1 : Int) = CmpD x.fst x.snd.fst) ∧
                                          (decide (List.getD x.fst (Int.toNat y.fst) (Kd.dft (Kd.int IntKind.i64)) < List.getD x.snd.fst (Int.toNat y.fst) (Kd.dft (Kd.int IntKind.i64))) = false →
                                            ((0 : Int) ≤ y.fst ∧ y.fst < (↑(List.length x.fst) : Int)) ∧
                                              ((0 : Int) ≤ y.fst ∧ y.fst < (↑(List.length x.snd.fst) : Int)) ∧
                                                (decide (List.getD x.snd.fst (Int.toNat y.fst) (Kd.dft (Kd.int IntKind.i64)) < List.getD x.fst (Int.toNat y.fst) (Kd.dft (Kd.int IntKind.i64))) = true →
                                                    (1 : Int) = CmpD x.fst x.snd.fst) ∧
                                                  (decide (List.getD x.snd.fst (Int.toNat y.fst) (Kd.dft (Kd.int IntKind.i64)) < List.getD x.fst (Int.toNat y.fst) (Kd.dft (Kd.int IntKind.i64))) =
                                                      false →
                                                    x.fst = x.fst ∧
                                                      x.snd.fst = x.snd.fst ∧
                                                        I (IntKind.wrap IntKind.i64 (y.fst + (1 : Int)), y.snd.fst, ()) () ∧
                                                          μ (IntKind.wrap IntKind.i64 (y.fst + (1 : Int)), y.snd.fst, ()) () < μ y z))) ∧
                                  ((bif decide (y.fst < (↑(List.length x.fst) : Int)) then decide (y.fst < (↑(List.length x.snd.fst) : Int)) else false) = false →
                                    (decide ((↑(List.length x.fst) : Int) < (↑(List.length x.snd.fst) : Int)) = true → (-1 : Int) = CmpD x.fst x.snd.fst) ∧
                                      (decide ((↑(List.length x.fst) : Int) < (↑(List.length x.snd.fst) : Int)) = false →
                                        (decide ((↑(List.length x.snd.fst) : Int) < (↑(List.length x.fst) : Int)) = true → (1 : Int) = CmpD x.fst x.snd.fst) ∧
                                          (decide ((↑(List.length x.snd.fst) : Int) < (↑(List.length x.fst) : Int)) = false → (0 : Int) = CmpD x.fst x.snd.fst)))
theorem e15 : t15 = Con.vc c15 GL (mkEnv ty [] [] [] [0, 1, 4, 5, 15, 26, 35, 40, 45]) {} Try.f15.ntmps Try.f15.results.toList (bodyOf Try.f15) := by kernel_rfl
theorem k15 : t15 := by
  unfold t15
  rintro ⟨a, b, _⟩ hx hp
  have hl : a.length ≤ 9223372036854775807 := hx.1.1
  simp only [true_and, and_true, eq_self_iff_true, implies_true, reduceCtorEq, false_implies, true_implies, decide_eq_true_eq, decide_eq_false_iff_not, beq_self_eq_true, Bool.not_eq_true', ne_eq, Decidable.not_not, List.nil_append, List.length_singleton, List.length_cons, List.length_nil, Nat.zero_add, Nat.add_zero, Nat.mul_one, and_self, beq_iff_eq, Bool.not_true, Bool.not_false, Bool.not_eq_false', Bool.cond_false_right, Bool.and_eq_true, imp_self, Bool.not_eq_true, Bool.cond_true_left, Bool.or_eq_true]
  refine ⟨fun y _ => 0 ≤ y.1 ∧ y.1 ≤ a.length ∧ y.1 ≤ b.length ∧ CmpD (a.drop y.1.toNat) (b.drop y.1.toNat) = CmpD a b, fun y _ => (a.length - y.1).toNat, ⟨by omega, by omega, by omega, rfl⟩, ?_⟩
  rintro ⟨i, _, _⟩ _ hw ⟨h1, h2, h3, h4⟩
  simp only at h1 h2 h3 h4 hw ⊢
  have hd : Kd.dft (Kd.int .i64) = (0 : Int) := rfl
  rw [hd]
  refine ⟨fun hc => ⟨by omega, by omega, fun h => ?_, fun h => ⟨by omega, by omega, fun h5 => ?_, fun h5 => ?_⟩⟩, fun hc => ⟨fun h => ?_, fun h => ⟨fun h5 => ?_, fun h5 => ?_⟩⟩⟩
  · have hs := cmp_step a b i.toNat (by omega) (by omega)
    have hc : cmpI (a.getD i.toNat 0) (b.getD i.toNat 0) = -1 := by rw [cmpI, if_pos h]
    rw [← h4, hs, hc]; rfl
  · have hs := cmp_step a b i.toNat (by omega) (by omega)
    have hc : cmpI (a.getD i.toNat 0) (b.getD i.toNat 0) = 1 := by rw [cmpI, if_neg h, if_pos h5]
    rw [← h4, hs, hc]; rfl
  · have hs := cmp_step a b i.toNat (by omega) (by omega)
    have hc2 : cmpI (a.getD i.toNat 0) (b.getD i.toNat 0) = 0 := by rw [cmpI, if_neg h, if_neg h5]
    rw [hc2, if_pos rfl, h4] at hs
    rw [wrap1 h1 hc.1 hl]
    exact ⟨⟨by omega, by omega, by omega, by rw [show (i + 1).toNat = i.toNat + 1 by omega]; exact hs.symm⟩, by omega⟩
  · have hc : ¬ (i < a.length ∧ i < b.length) := by simpa using hc
    rw [← h4, cmp_lt _ _ _ (by omega) (by omega)]
  · have hc : ¬ (i < a.length ∧ i < b.length) := by simpa using hc
    rw [← h4, cmp_gt _ _ _ (by omega) (by omega)]
  · have hc : ¬ (i < a.length ∧ i < b.length) := by simpa using hc
    rw [← h4, cmp_eq _ _ _ (by omega) (by omega)]
theorem h15 : c15.ok Try.prog GL 15 := con_ok (H := {}) (mkEnv_ok (gl := GL) (l := []) (q := []) (d := []) _ tyOk (by kernel_rfl) trivial trivial trivial) (by kernel_rfl) (by kernel_rfl) (Eq.mp e15 k15)

def t23 : Prop :=
  ∀ (x : List Int × List Int × Unit),
    Kd.wf (Kd.sl (Kd.int IntKind.i64)) x.fst ∧ Kd.wf (Kd.sl (Kd.int IntKind.i64)) x.snd.fst ∧ True →
      True → True ∧ (∀ (y : Int × Unit), Kd.wf (Kd.int IntKind.i64) y.fst ∧ True → y.fst = CmpD x.fst x.snd.fst → x.fst = x.snd.fst → decide (y.fst = (0 : Int)) = true) ∧ True
theorem e23 : t23 = Con.vc c23 GL (mkEnv ty [(15, conSem c15)] [] [] [0, 1, 4]) {} Try.f23.ntmps Try.f23.results.toList (bodyOf Try.f23) := by kernel_rfl
theorem k23 : t23 := by
  unfold t23
  rintro ⟨a, b, _⟩ hx hp
  try dsimp +instances only [dft_int, dft_sl, dft_str]
  simp only [true_and, and_true, eq_self_iff_true, implies_true, reduceCtorEq, false_implies, true_implies, decide_eq_true_eq, decide_eq_false_iff_not, beq_self_eq_true, Bool.not_eq_true', ne_eq, Decidable.not_not, List.nil_append, List.length_singleton, List.length_cons, List.length_nil, Nat.zero_add, Nat.add_zero, Nat.mul_one, and_self, beq_iff_eq, Bool.not_true, Bool.not_false, Bool.not_eq_false', Bool.cond_false_right, Bool.and_eq_true, imp_self, Bool.not_eq_true, Bool.cond_true_left, Bool.or_eq_true]
  rintro ⟨y, _⟩ _ ey e
  subst e
  have h : CmpD a a = 0 := cmp_zero.2 rfl
  simp only at ey ⊢
  rw [ey, h]
theorem h23 : c23.ok Try.prog GL 23 := con_ok (H := {}) (mkEnv_ok (gl := GL) (l := [(15, conSem c15)]) (q := []) (d := []) _ tyOk (by kernel_rfl) ⟨h15.call, trivial⟩ trivial trivial) (by kernel_rfl) (by kernel_rfl) (Eq.mp e23 k23)

def t8 : Prop :=
  ∀ (x : List Int × List Int × List Int × Unit),
    Kd.wf (Kd.sl (Kd.int IntKind.i64)) x.fst ∧ Kd.wf (Kd.sl (Kd.int IntKind.i64)) x.snd.fst ∧ Kd.wf (Kd.sl (Kd.int IntKind.i64)) x.snd.snd.fst ∧ True →
      List.length x.fst ≤ (1000 : Nat) →
        True ∧
          (∀ (y : Bool × Unit),
              Kd.wf Kd.bool y.fst ∧ True →
                (x.fst = x.snd.snd.fst → y.fst = true) →
                  ((!y.fst) = true → x.fst = x.snd.snd.fst → x.snd.fst = x.snd.snd.fst → false = true) ∧
                    ((!y.fst) = false →
                      ∃ (I : Int × Unit → List Int × Unit → Prop),
                        ∃ (μ : Int × Unit → List Int × Unit → Nat),
                          (Value.bool false = Value.bool false ∧ Value.bool false = Value.bool false ∧ x.snd.fst = x.snd.fst ∧ x.snd.snd.fst = x.snd.snd.fst ∧ I ((0 : Int), ()) (x.fst, ())) ∧
                            ∀ (y : Int × Unit) (z : List Int × Unit),
                              Kd.wf (Kd.int IntKind.i64) y.fst ∧ True →
                                Kd.wf (Kd.sl (Kd.int IntKind.i64)) z.fst ∧ True →
                                  I y z →
                                    (decide (y.fst < (↑(List.length z.fst) : Int)) = true →
                                        ((0 : Int) ≤ y.fst ∧ y.fst < (↑(List.length z.fst) : Int)) ∧
                                          Value.bool false = Value.bool false ∧
                                            Value.bool false = Value.bool false ∧
                                              x.snd.fst = x.snd.fst ∧
                                                x.snd.snd.fst = x.snd.snd.fst ∧
                                                  I (IntKind.wrap IntKind.i64 (y.fst + (1 : Int)), ()) (List.set z.fst (Int.toNat y.fst) (-5 : Int), ()) ∧
                                                    μ (IntKind.wrap IntKind.i64 (y.fst + (1 : Int)), ()) (List.set z.fst (Int.toNat y.fst) (-5 : Int), ()) < μ y z) ∧
                                      (decide (y.fst < (↑(List.length z.fst) : Int)) = false →
                                        (0 : Nat) < (1 : Nat) ∧
                                          (List.length z.fst + (2 : Nat)) * (8 : Nat) ≤ (140737488355328 : Nat) ∧
                                            List.length z.fst + (2 : Nat) ≤ (9223372036854775807 : Nat) ∧
                                              True ∧
                                                (∀ (y : Bool × Unit),
                                                    Kd.wf Kd.bool y.fst ∧ True → (x.snd.fst = x.snd.snd.fst → y.fst = true) → x.fst = x.snd.snd.fst → x.snd.fst = x.snd.snd.fst → y.fst = true) ∧
                                                  True))) ∧
            True
theorem e8 : t8 = Con.vc c8 GL (mkEnv ty [(23, conSem c23)] [] [] [0, 1, 2, 6, 7, 11, 15]) {} Try.f8.ntmps Try.f8.results.toList (bodyOf Try.f8) := by kernel_rfl
theorem k8 : t8 := by
  unfold t8
  rintro ⟨a, b, c, _⟩ hx hp
  have hp : a.length ≤ 1000 := hp
  try dsimp +instances only [dft_int, dft_sl, dft_str]
  simp only [true_and, and_true, eq_self_iff_true, implies_true, reduceCtorEq, false_implies, true_implies, decide_eq_true_eq, decide_eq_false_iff_not, beq_self_eq_true, Bool.not_eq_true', ne_eq, Decidable.not_not, List.nil_append, List.length_singleton, List.length_cons, List.length_nil, Nat.zero_add, Nat.add_zero, Nat.mul_one, and_self, beq_iff_eq, Bool.not_true, Bool.not_false, Bool.not_eq_false', Bool.cond_false_right, Bool.and_eq_true, imp_self, Bool.not_eq_true, Bool.cond_true_left, Bool.or_eq_true]
  rintro ⟨q, _⟩ _ hq
  simp only at hq ⊢
  refine ⟨fun h e _ => (by rw [hq e] at h; cases h), fun _ => ?_⟩
  refine ⟨fun y z => 0 ≤ y.1 ∧ z.1.length = a.length, fun y z => z.1.length - y.1.toNat, ⟨by omega, rfl⟩, ?_⟩
  rintro ⟨i, _⟩ ⟨z, _⟩ _ _ ⟨h0, h1⟩
  simp only at h0 h1 ⊢
  refine ⟨fun hlt => ?_, fun _ => ⟨by decide, by omega, by omega, fun y _ hy _ e2 => hy e2⟩⟩
  have hw : IntKind.wrap .i64 (i + 1) = i + 1 := wrapK _ (by omega) (by omega)
  rw [hw]
  exact ⟨⟨h0, hlt⟩, ⟨by omega, by simp; exact h1⟩, by simp; omega⟩
theorem h8 : c8.ok Try.prog GL 8 := con_ok (H := {}) (mkEnv_ok (gl := GL) (l := [(23, conSem c23)]) (q := []) (d := []) _ tyOk (by kernel_rfl) ⟨h23.call, trivial⟩ trivial trivial) (by kernel_rfl) (by kernel_rfl) (Eq.mp e8 k8)

def t20 : Prop :=
  ∀ (x : List Int × Int × Unit),
    Kd.wf (Kd.sl (Kd.int IntKind.u8)) x.fst ∧ Kd.wf (Kd.int IntKind.i64) x.snd.fst ∧ True →
      (0 : Int) ≤ x.snd.fst →
        (decide (x.snd.fst < (↑(List.length x.fst) : Int)) = true → True) ∧
          (decide (x.snd.fst < (↑(List.length x.fst) : Int)) = true → True) ∧
            (decide (x.snd.fst < (↑(List.length x.fst) : Int)) = true →
                (decide (x.snd.fst < (↑(List.length x.fst) : Int)) == true) = true ∧
                  (decide (x.snd.fst < (↑(List.length x.fst) : Int)) == true) = true ∧ ((0 : Int) ≤ x.snd.fst ∧ x.snd.fst < (↑(List.length x.fst) : Int)) ∧ True) ∧
              (decide (x.snd.fst < (↑(List.length x.fst) : Int)) = true → (decide (x.snd.fst < (↑(List.length x.fst) : Int)) == true) = true ∧ True) ∧
                (decide (x.snd.fst < (↑(List.length x.fst) : Int)) = true → (decide (x.snd.fst < (↑(List.length x.fst) : Int)) == true) = true ∧ True) ∧
                  (decide (x.snd.fst < (↑(List.length x.fst) : Int)) = true → (decide (x.snd.fst < (↑(List.length x.fst) : Int)) == true) = true) ∧
                    ((bif decide (x.snd.fst < (↑(List.length x.fst) : Int)) then decide (List.getD x.fst (Int.toNat x.snd.fst) (Kd.dft (Kd.int IntKind.u8)) = (128 : Int)) else false) = true →
                        (NextD x.fst x.snd.fst).snd.snd = (30 : Int) ∧ (30 : Int) ≠ (0 : Int)) ∧
                      ((bif decide (x.snd.fst < (↑(List.length x.fst) : Int)) then decide (List.getD x.fst (Int.toNat x.snd.fst) (Kd.dft (Kd.int IntKind.u8)) = (128 : Int)) else false) = false →
                        ∃ (I : Int × Int × Int × Int × Unit → Unit → Prop),
                          ∃ (μ : Int × Int × Int × Int × Unit → Unit → Nat),
                            (Value.bool false = Value.bool false ∧ x.fst = x.fst ∧ I ((0 : Int), (0 : Int), (0 : Int), x.snd.fst, ()) ()) ∧
                              ∀ (y : Int × Int × Int × Int × Unit) (z : Unit),
                                Kd.wf (Kd.int IntKind.i64) y.fst ∧ Kd.wf (Kd.int IntKind.i64) y.snd.fst ∧ Kd.wf (Kd.int IntKind.i64) y.snd.snd.fst ∧ Kd.wf (Kd.int IntKind.i64) y.snd.snd.snd.fst ∧ True →
                                  True →
                                    I y z →
                                      (decide (y.snd.snd.snd.fst < (↑(List.length x.fst) : Int)) = true →
                                          (0 : Int) ≤ (7 : Int) ∧
                                            ((0 : Int) ≤ y.snd.snd.snd.fst ∧ y.snd.snd.snd.fst < (↑(List.length x.fst) : Int)) ∧
                                              (decide
                                                      ((2147483647 : Int) <
                                                        IntKind.wrap IntKind.i64
                                                          (↑(BitVec.toNat
                                                                (BitVec.ofInt (64 : Nat) (IntKind.wrap IntKind.i64 (y.fst * (2 : Int) ^ (7 : Nat))) |||
                                                                  BitVec.ofInt (64 : Nat)
                                                                    (IntKind.wrap IntKind.i64
                                                                      (IntKind.wrap IntKind.u8
                                                                        (↑(BitVec.toNat
                                                                              (BitVec.ofInt (8 : Nat) (List.getD x.fst (Int.toNat y.snd.snd.snd.fst) (Kd.dft (Kd.int IntKind.u8))) &&&
                                                                                BitVec.ofInt (8 : Nat) (127 : Int))) :
                                                                          Int))))) :
                                                            Int)) =
                                                    true →
                                                  (NextD x.fst x.snd.fst).snd.snd = (31 : Int) ∧ (31 : Int) ≠ (0 : Int)) ∧
                                                (decide
                                                      ((2147483647 : Int) <
                                                        IntKind.wrap IntKind.i64
                                                          (↑(BitVec.toNat
                                                                (BitVec.ofInt (64 : Nat) (IntKind.wrap IntKind.i64 (y.fst * (2 : Int) ^ (7 : Nat))) |||
                                                                  BitVec.ofInt (64 : Nat)
                                                                    (IntKind.wrap IntKind.i64
                                                                      (IntKind.wrap IntKind.u8
                                                                        (↑(BitVec.toNat
                                                                              (BitVec.ofInt (8 : Nat) (List.getD x.fst (Int.toNat y.snd.snd.snd.fst) (Kd.dft (Kd.int IntKind.u8))) &&&
                                                                                BitVec.ofInt (8 : Nat) (127 : Int))) :
                                                                          Int))))) :
                                                            Int)) =
                                                    false →
                                                  ((0 : Int) ≤ y.snd.snd.snd.fst ∧ y.snd.snd.snd.fst < (↑(List.length x.fst) : Int)) ∧
                                                    (decide (List.getD x.fst (Int.toNat y.snd.snd.snd.fst) (Kd.dft (Kd.int IntKind.u8)) < (128 : Int)) = true →
                                                        NextD x.fst x.snd.fst =
                                                          (IntKind.wrap IntKind.i64
                                                              (↑(BitVec.toNat
                                                                    (BitVec.ofInt (64 : Nat) (IntKind.wrap IntKind.i64 (y.fst * (2 : Int) ^ (7 : Nat))) |||
                                                                      BitVec.ofInt (64 : Nat)
                                                                        (IntKind.wrap IntKind.i64
                                                                          (IntKind.wrap IntKind.u8
                                                                            (↑(BitVec.toNat
                                                                                  (BitVec.ofInt (8 : Nat) (List.getD x.fst (Int.toNat y.snd.snd.snd.fst) (Kd.dft (Kd.int IntKind.u8))) &&&
                                                                                    BitVec.ofInt (8 : Nat) (127 : Int))) :
                                                                              Int))))) :
                                                                Int),
                                                            IntKind.wrap IntKind.i64 (y.snd.snd.snd.fst + (1 : Int)), (0 : Int))) ∧
                                                      (decide (List.getD x.fst (Int.toNat y.snd.snd.snd.fst) (Kd.dft (Kd.int IntKind.u8)) < (128 : Int)) = false →
                                                        Value.bool false = Value.bool false ∧
                                                          x.fst = x.fst ∧
                                                            I
                                                                (IntKind.wrap IntKind.i64
                                                                    (↑(BitVec.toNat
                                                                          (BitVec.ofInt (64 : Nat) (IntKind.wrap IntKind.i64 (y.fst * (2 : Int) ^ (7 : Nat))) |||
                                                                            BitVec.ofInt (64 : Nat)
                                                                              (IntKind.wrap IntKind.i64
                                                                                (IntKind.wrap IntKind.u8
                                                                                  (↑(BitVec.toNat
                                                                                        (BitVec.ofInt (8 : Nat) (List.getD x.fst (Int.toNat y.snd.snd.snd.fst) (Kd.dft (Kd.int IntKind.u8))) &&&
                                                                                          BitVec.ofInt (8 : Nat) (127 : Int))) :
                                                                                    Int))))) :
                                                                      Int),
                                                                  y.snd.fst, y.snd.snd.fst, IntKind.wrap IntKind.i64 (y.snd.snd.snd.fst + (1 : Int)), ())
                                                                () ∧
                                                              μ
                                                                  (IntKind.wrap IntKind.i64
                                                                      (↑(BitVec.toNat
                                                                            (BitVec.ofInt (64 : Nat) (IntKind.wrap IntKind.i64 (y.fst * (2 : Int) ^ (7 : Nat))) |||
                                                                              BitVec.ofInt (64 : Nat)
                                                                                (IntKind.wrap IntKind.i64
                                                                                  (IntKind.wrap IntKind.u8
                                                                                    (↑(BitVec.toNat
                                                                                          (BitVec.ofInt (8 : Nat) (List.getD x.fst (Int.toNat y.snd.snd.snd.fst) (Kd.dft (Kd.int IntKind.u8))) &&&
                                                                                            BitVec.ofInt (8 : Nat) (127 : Int))) :
                                                                                      Int))))) :
                                                                        Int),
                                                                    y.snd.fst, y.snd.snd.fst, IntKind.wrap IntKind.i64 (y.snd.snd.snd.fst + (1 : Int)), ())
                                                                  () <
                                                                μ y z))) ∧
                                        (decide (y.snd.snd.snd.fst < (↑(List.length x.fst) : Int)) = false → (NextD x.fst x.snd.fst).snd.snd = (10 : Int) ∧ (10 : Int) ≠ (0 : Int)))
theorem e20 : t20 = Con.vc c20 GL (mkEnv ty [] [] [] [0, 1, 4, 5, 6, 17, 23, 36, 43]) {} Try.f20.ntmps Try.f20.results.toList (bodyOf Try.f20) := by kernel_rfl
theorem k20 : t20 := by
  unfold t20
  rintro ⟨l, i, _⟩ hx hp
  have hp : 0 ≤ i := hp
  have hwl : l.length ≤ 9223372036854775807 := hx.1.1
  have hwf : Kd.wf BY l := hx.1
  try dsimp +instances only [dft_int, dft_sl, dft_str]
  simp only [true_and, and_true, eq_self_iff_true, implies_true, reduceCtorEq, false_implies, true_implies, decide_eq_true_eq, decide_eq_false_iff_not, beq_self_eq_true, Bool.not_eq_true', ne_eq, Decidable.not_not, List.nil_append, List.length_singleton, List.length_cons, List.length_nil, Nat.zero_add, Nat.add_zero, Nat.mul_one, and_self, beq_iff_eq, Bool.not_true, Bool.not_false, Bool.not_eq_false', Bool.cond_false_right, Bool.and_eq_true, imp_self, Bool.not_eq_true, Bool.cond_true_left, Bool.or_eq_true]
  refine ⟨fun h => ⟨h, h, hp, h⟩, fun h => by rw [next_30 l i h.2]; exact ⟨rfl, by decide⟩, fun h => ?_⟩
  have hne : l.getD i.toNat 0 ≠ 128 := fun e => by
    have hlt : i < l.length := by
      by_cases hi : i.toNat < l.length
      · omega
      · rw [List.getD_eq_getElem?_getD, List.getElem?_eq_none (by omega)] at e
        cases e
    rcases Bool.and_eq_false_iff.1 h with h | h
    · exact of_decide_eq_false h hlt
    · exact of_decide_eq_false h e
  have hN := next_go l i hne
  rw [hN]
  refine ⟨fun y _ => 0 ≤ y.1 ∧ y.1 ≤ 2147483647 ∧ 0 ≤ y.2.2.2.1 ∧ nextR (l.drop i.toNat) 0 i = nextR (l.drop y.2.2.2.1.toNat) y.1 y.2.2.2.1, fun y _ => ((l.length : Int) - y.2.2.2.1).toNat, ⟨by omega, by omega, hp, rfl⟩, ?_⟩
  rintro ⟨v, r1, r2, p, _⟩ z _ ⟨h0, h1, h2, h3⟩
  simp only at h0 h1 h2 h3 ⊢
  refine ⟨fun hlt => ?_, fun hge => ?_⟩
  · have hb := byteGet hwf p.toNat
    have hor := or7 v _ hb ⟨h0, h1⟩
    have hw : IntKind.wrap .i64 (p + 1) = p + 1 := by rw [IntKind.wrap_i64]; omega
    rw [hor, hw]
    rw [drop_cons l p.toNat (by omega)] at h3
    have e1 : (p + 1).toNat = p.toNat + 1 := by omega
    generalize l.getD p.toNat 0 = b at hb h3 ⊢
    have e : nextR (b :: l.drop (p.toNat + 1)) v p = if 2147483647 < v * 128 + b % 128 then (0, 0, 31) else if b < 128 then (v * 128 + b % 128, p + 1, 0) else nextR (l.drop (p.toNat + 1)) (v * 128 + b % 128) (p + 1) := rfl
    rw [e] at h3
    refine ⟨by decide, ⟨h2, hlt⟩, fun hc => by rw [h3, if_pos hc]; exact ⟨rfl, by decide⟩, fun hc => ⟨⟨h2, hlt⟩, fun hd => by rw [h3, if_neg hc, if_pos hd], fun hd => ⟨⟨by omega, by omega, by omega, ?_⟩, by omega⟩⟩⟩
    rw [e1, h3, if_neg hc, if_neg hd]
  · rw [h3, List.drop_of_length_le (by omega)]
    exact ⟨rfl, by decide⟩
theorem h20 : c20.ok Try.prog GL 20 := con_ok (H := {}) (mkEnv_ok (gl := GL) (l := []) (q := []) (d := []) _ tyOk (by kernel_rfl) trivial trivial trivial) (by kernel_rfl) (by kernel_rfl) (Eq.mp e20 k20)

def t22 : Prop :=
  ∀ (x : List Int × Int × Unit),
    Kd.wf (Kd.sl (Kd.int IntKind.u8)) x.fst ∧ Kd.wf (Kd.int IntKind.i64) x.snd.fst ∧ True →
      (0 : Int) ≤ x.snd.fst →
        (decide (x.snd.fst < (↑(List.length x.fst) : Int)) = true → True) ∧
          (decide (x.snd.fst < (↑(List.length x.fst) : Int)) = true → True) ∧
            (decide (x.snd.fst < (↑(List.length x.fst) : Int)) = true →
                (decide (x.snd.fst < (↑(List.length x.fst) : Int)) == true) = true ∧
                  (decide (x.snd.fst < (↑(List.length x.fst) : Int)) == true) = true ∧ ((0 : Int) ≤ x.snd.fst ∧ x.snd.fst < (↑(List.length x.fst) : Int)) ∧ True) ∧
              (decide (x.snd.fst < (↑(List.length x.fst) : Int)) = true → (decide (x.snd.fst < (↑(List.length x.fst) : Int)) == true) = true ∧ True) ∧
                (decide (x.snd.fst < (↑(List.length x.fst) : Int)) = true → (decide (x.snd.fst < (↑(List.length x.fst) : Int)) == true) = true ∧ True) ∧
                  (decide (x.snd.fst < (↑(List.length x.fst) : Int)) = true → (decide (x.snd.fst < (↑(List.length x.fst) : Int)) == true) = true) ∧
                    ((bif decide (x.snd.fst < (↑(List.length x.fst) : Int)) then decide (List.getD x.fst (Int.toNat x.snd.fst) (Kd.dft (Kd.int IntKind.u8)) = (128 : Int)) else false) = true →
                        NextD x.fst x.snd.fst = ((0 : Int), (0 : Int), (30 : Int))) ∧
                      ((bif decide (x.snd.fst < (↑(List.length x.fst) : Int)) then decide (List.getD x.fst (Int.toNat x.snd.fst) (Kd.dft (Kd.int IntKind.u8)) = (128 : Int)) else false) = false →
                        ∃ (I : Int × Int × Int × Int × Int × Unit → Unit → Prop),
                          ∃ (μ : Int × Int × Int × Int × Int × Unit → Unit → Nat),
                            (Value.bool false = Value.bool false ∧ x.fst = x.fst ∧ I ((0 : Int), (0 : Int), (0 : Int), (0 : Int), x.snd.fst, ()) ()) ∧
                              ∀ (y : Int × Int × Int × Int × Int × Unit) (z : Unit),
                                Kd.wf (Kd.int IntKind.i64) y.fst ∧
                                    Kd.wf (Kd.int IntKind.i64) y.snd.fst ∧
                                      Kd.wf (Kd.int IntKind.i64) y.snd.snd.fst ∧ Kd.wf (Kd.int IntKind.i64) y.snd.snd.snd.fst ∧ Kd.wf (Kd.int IntKind.i64) y.snd.snd.snd.snd.fst ∧ True →
                                  True →
                                    I y z →
                                      (decide (y.snd.snd.snd.snd.fst < (↑(List.length x.fst) : Int)) = true →
                                          ((0 : Int) ≤ y.snd.snd.snd.snd.fst ∧ y.snd.snd.snd.snd.fst < (↑(List.length x.fst) : Int)) ∧
                                            (128 : Int) ≠ (0 : Int) ∧
                                              (decide
                                                      ((2147483647 : Int) <
                                                        IntKind.wrap IntKind.i64
                                                          (IntKind.wrap IntKind.i64 ((128 : Int) * y.fst) +
                                                            Int.tmod (IntKind.wrap IntKind.i64 (List.getD x.fst (Int.toNat y.snd.snd.snd.snd.fst) (Kd.dft (Kd.int IntKind.u8)))) (128 : Int))) =
                                                    true →
                                                  NextD x.fst x.snd.fst = ((0 : Int), (0 : Int), (31 : Int))) ∧
                                                (decide
                                                      ((2147483647 : Int) <
                                                        IntKind.wrap IntKind.i64
                                                          (IntKind.wrap IntKind.i64 ((128 : Int) * y.fst) +
                                                            Int.tmod (IntKind.wrap IntKind.i64 (List.getD x.fst (Int.toNat y.snd.snd.snd.snd.fst) (Kd.dft (Kd.int IntKind.u8)))) (128 : Int))) =
                                                    false →
                                                  ((0 : Int) ≤ IntKind.wrap IntKind.i64 (IntKind.wrap IntKind.i64 (y.snd.snd.snd.snd.fst + (1 : Int)) - (1 : Int)) ∧
                                                      IntKind.wrap IntKind.i64 (IntKind.wrap IntKind.i64 (y.snd.snd.snd.snd.fst + (1 : Int)) - (1 : Int)) < (↑(List.length x.fst) : Int)) ∧
                                                    (decide
                                                            (List.getD x.fst (Int.toNat (IntKind.wrap IntKind.i64 (IntKind.wrap IntKind.i64 (y.snd.snd.snd.snd.fst + (1 : Int)) - (1 : Int))))
                                                                (Kd.dft (Kd.int IntKind.u8)) <
                                                              (128 : Int)) =
                                                          true →
                                                        NextD x.fst x.snd.fst =
                                                          (IntKind.wrap IntKind.i64
                                                              (IntKind.wrap IntKind.i64 ((128 : Int) * y.fst) +
                                                                Int.tmod (IntKind.wrap IntKind.i64 (List.getD x.fst (Int.toNat y.snd.snd.snd.snd.fst) (Kd.dft (Kd.int IntKind.u8)))) (128 : Int)),
                                                            IntKind.wrap IntKind.i64 (y.snd.snd.snd.snd.fst + (1 : Int)), (0 : Int))) ∧
                                                      (decide
                                                            (List.getD x.fst (Int.toNat (IntKind.wrap IntKind.i64 (IntKind.wrap IntKind.i64 (y.snd.snd.snd.snd.fst + (1 : Int)) - (1 : Int))))
                                                                (Kd.dft (Kd.int IntKind.u8)) <
                                                              (128 : Int)) =
                                                          false →
                                                        Value.bool false = Value.bool false ∧
                                                          x.fst = x.fst ∧
                                                            I
                                                                (IntKind.wrap IntKind.i64
                                                                    (IntKind.wrap IntKind.i64 ((128 : Int) * y.fst) +
                                                                      Int.tmod (IntKind.wrap IntKind.i64 (List.getD x.fst (Int.toNat y.snd.snd.snd.snd.fst) (Kd.dft (Kd.int IntKind.u8)))) (128 : Int)),
                                                                  y.snd.fst, y.snd.snd.fst, y.snd.snd.snd.fst, IntKind.wrap IntKind.i64 (y.snd.snd.snd.snd.fst + (1 : Int)), ())
                                                                () ∧
                                                              μ
                                                                  (IntKind.wrap IntKind.i64
                                                                      (IntKind.wrap IntKind.i64 ((128 : Int) * y.fst) +
                                                                        Int.tmod (IntKind.wrap IntKind.i64 (List.getD x.fst (Int.toNat y.snd.snd.snd.snd.fst) (Kd.dft (Kd.int IntKind.u8)))) (128 : Int)),
                                                                    y.snd.fst, y.snd.snd.fst, y.snd.snd.snd.fst, IntKind.wrap IntKind.i64 (y.snd.snd.snd.snd.fst + (1 : Int)), ())
                                                                  () <
                                                                μ y z))) ∧
                                        (decide (y.snd.snd.snd.snd.fst < (↑(List.length x.fst) : Int)) = false → NextD x.fst x.snd.fst = ((0 : Int), (0 : Int), (10 : Int))))
theorem e22 : t22 = Con.vc c22 GL (mkEnv ty [] [] [] [0, 1, 4, 5, 6, 7, 18, 22, 33, 41]) {} Try.f22.ntmps Try.f22.results.toList (bodyOf Try.f22) := by kernel_rfl
theorem k22 : t22 := by
  unfold t22
  rintro ⟨l, i, _⟩ hx hp
  have hp : 0 ≤ i := hp
  have hwl : l.length ≤ 9223372036854775807 := hx.1.1
  have hwf : Kd.wf BY l := hx.1
  try dsimp +instances only [dft_int, dft_sl, dft_str]
  simp only [true_and, and_true, eq_self_iff_true, implies_true, reduceCtorEq, false_implies, true_implies, decide_eq_true_eq, decide_eq_false_iff_not, beq_self_eq_true, Bool.not_eq_true', ne_eq, Decidable.not_not, List.nil_append, List.length_singleton, List.length_cons, List.length_nil, Nat.zero_add, Nat.add_zero, Nat.mul_one, and_self, beq_iff_eq, Bool.not_true, Bool.not_false, Bool.not_eq_false', Bool.cond_false_right, Bool.and_eq_true, imp_self, Bool.not_eq_true, Bool.cond_true_left, Bool.or_eq_true]
  refine ⟨fun h => ⟨h, h, hp, h⟩, fun h => next_30 l i h.2, fun h => ?_⟩
  have hne : l.getD i.toNat 0 ≠ 128 := fun e => by
    have hlt : i < l.length := by
      by_cases hi : i.toNat < l.length
      · omega
      · rw [List.getD_eq_getElem?_getD, List.getElem?_eq_none (by omega)] at e
        cases e
    rcases Bool.and_eq_false_iff.1 h with h | h
    · exact of_decide_eq_false h hlt
    · exact of_decide_eq_false h e
  have hN := next_go l i hne
  rw [hN]
  refine ⟨fun y _ => 0 ≤ y.1 ∧ y.1 ≤ 2147483647 ∧ 0 ≤ y.2.2.2.2.1 ∧ nextR (l.drop i.toNat) 0 i = nextR (l.drop y.2.2.2.2.1.toNat) y.1 y.2.2.2.2.1, fun y _ => ((l.length : Int) - y.2.2.2.2.1).toNat, ⟨by omega, by omega, hp, rfl⟩, ?_⟩
  rintro ⟨v, r1, r2, r3, p, _⟩ z _ ⟨h0, h1, h2, h3⟩
  simp only at h0 h1 h2 h3 ⊢
  refine ⟨fun hlt => ?_, fun hge => ?_⟩
  · have hb := byteGet hwf p.toNat
    have hw : IntKind.wrap .i64 (p + 1) = p + 1 := by rw [IntKind.wrap_i64]; omega
    have hw2 : IntKind.wrap .i64 (p + 1 - 1) = p := by rw [wrapK' (p + 1 - 1) (by omega) (by omega)]; omega
    have hor : IntKind.wrap .i64 (IntKind.wrap .i64 (128 * v) + (IntKind.wrap .i64 (l.getD p.toNat 0)).tmod 128) = v * 128 + l.getD p.toNat 0 % 128 := by
      rw [wrapK (128 * v) (by omega) (by omega), wrapK (l.getD p.toNat 0) (by omega) (by omega), Int.tmod_eq_emod_of_nonneg hb.1, wrapK _ (by omega) (by omega)]
      omega
    rw [hor, hw, hw2]
    rw [drop_cons l p.toNat (by omega)] at h3
    have e1 : (p + 1).toNat = p.toNat + 1 := by omega
    generalize l.getD p.toNat 0 = b at hb h3 ⊢
    have e : nextR (b :: l.drop (p.toNat + 1)) v p = if 2147483647 < v * 128 + b % 128 then (0, 0, 31) else if b < 128 then (v * 128 + b % 128, p + 1, 0) else nextR (l.drop (p.toNat + 1)) (v * 128 + b % 128) (p + 1) := rfl
    rw [e] at h3
    refine ⟨⟨h2, hlt⟩, by decide, fun hc => by rw [h3, if_pos hc], fun hc => ⟨⟨h2, hlt⟩, fun hd => by rw [h3, if_neg hc, if_pos hd], fun hd => ⟨⟨by omega, by omega, by omega, ?_⟩, by omega⟩⟩⟩
    rw [e1, h3, if_neg hc, if_neg hd]
  · rw [h3, List.drop_of_length_le (by omega)]
    rfl
theorem h22 : c22.ok Try.prog GL 22 := con_ok (H := {}) (mkEnv_ok (gl := GL) (l := []) (q := []) (d := []) _ tyOk (by kernel_rfl) trivial trivial trivial) (by kernel_rfl) (by kernel_rfl) (Eq.mp e22 k22)

def t21 : Prop :=
  ∀ (x : Int × Unit),
    Kd.wf (Kd.int IntKind.i64) x.fst ∧ True →
      (0 : Int) ≤ x.fst →
        (40 : Int) ≠ (0 : Int) ∧
          [if (2 : Int) < IntKind.wrap IntKind.i64 (Int.tdiv x.fst (40 : Int)) then (2 : Int) else IntKind.wrap IntKind.i64 (Int.tdiv x.fst (40 : Int)),
              IntKind.wrap IntKind.i64
                (x.fst -
                  IntKind.wrap IntKind.i64 ((40 : Int) * if (2 : Int) < IntKind.wrap IntKind.i64 (Int.tdiv x.fst (40 : Int)) then (2 : Int) else IntKind.wrap IntKind.i64 (Int.tdiv x.fst (40 : Int))))] =
            SplitD x.fst
theorem e21 : t21 = Con.vc c21 GL (mkEnv ty [] [] [] [0, 2, 3]) {} Try.f21.ntmps Try.f21.results.toList (bodyOf Try.f21) := by kernel_rfl
theorem k21 : t21 := by
  unfold t21
  rintro ⟨v, _⟩ hx hp
  have hp : 0 ≤ v := hp
  have hr : v ≤ 9223372036854775807 := by
    have h : InR .i64 v := hx.1
    simp [InR, IntKind.min, IntKind.max, IntKind.signed, IntKind.bits] at h
    exact h.2
  try dsimp +instances only [dft_int, dft_sl, dft_str]
  simp only [true_and, and_true, eq_self_iff_true, implies_true, reduceCtorEq, false_implies, true_implies, decide_eq_true_eq, decide_eq_false_iff_not, beq_self_eq_true, Bool.not_eq_true', ne_eq, Decidable.not_not, List.nil_append, List.length_singleton, List.length_cons, List.length_nil, Nat.zero_add, Nat.add_zero, Nat.mul_one, and_self, beq_iff_eq, Bool.not_true, Bool.not_false, Bool.not_eq_false', Bool.cond_false_right, Bool.and_eq_true, imp_self, Bool.not_eq_true, Bool.cond_true_left, Bool.or_eq_true]
  have hw : IntKind.wrap .i64 (v.tdiv 40) = v / 40 := by rw [Int.tdiv_eq_ediv_of_nonneg hp, IntKind.wrap_i64]; omega
  refine ⟨by decide, ?_⟩
  by_cases h : 2 < IntKind.wrap .i64 (v.tdiv 40)
  · rw [if_pos h]
    rw [hw] at h
    rw [SplitD, if_neg (by omega), if_neg (by omega), wrapK (40 * 2) (by decide) (by decide), wrapK' (v - 40 * 2) (by omega) (by omega)]
    rfl
  · rw [if_neg h, hw]
    rw [hw] at h
    rw [wrapK (40 * (v / 40)) (by omega) (by omega), wrapK _ (by omega) (by omega)]
    unfold SplitD
    by_cases h1 : v < 40
    · rw [if_pos h1, show v / 40 = 0 by omega]; simp
    · rw [if_neg h1]
      by_cases h2 : v < 80
      · rw [if_pos h2, show v / 40 = 1 by omega]; simp
      · rw [if_neg h2, show v / 40 = 2 by omega]; simp
theorem h21 : c21.ok Try.prog GL 21 := con_ok (H := {}) (mkEnv_ok (gl := GL) (l := []) (q := []) (d := []) _ tyOk (by kernel_rfl) trivial trivial trivial) (by kernel_rfl) (by kernel_rfl) (Eq.mp e21 k21)

noncomputable def i19 : DefSem := vcDef (mkEnv ty [] [] [] [0, 1, 2, 3, 4, 7, 14]) {} Try.f19.ntmps Try.f19.results.toList (bodyOf Try.f19)
theorem i19_ok : DefOk Try.prog GL 19 i19 := def_ok {} (mkEnv_ok (gl := GL) (l := []) (q := []) (d := []) _ tyOk (by kernel_rfl) trivial trivial trivial) (by kernel_rfl) (by kernel_rfl)

def t6 : Prop :=
  ∀ (x : List Int × Unit),
    Kd.wf (Kd.sl (Kd.int IntKind.u8)) x.fst ∧ True →
      True →
        (1 : Nat) ≤ (65536 : Nat) ∧
          (1 : Nat) ≤ (65536 : Nat) ∧
            (0 : Int) ≤ (0 : Int) ∧
              (∀ (y : Int × Int × Unit),
                  Kd.wf (Kd.int IntKind.i64) y.fst ∧ Kd.wf (Kd.int IntKind.i64) y.snd.fst ∧ True →
                    NextD x.fst (0 : Int) = (y.fst, y.snd.fst, (0 : Int)) →
                      (0 : Int) ≤ y.fst ∧
                        (∀ (y_1 : List Int × Unit),
                            Kd.wf (Kd.sl (Kd.int IntKind.i64)) y_1.fst ∧ True →
                              y_1.fst = SplitD y.fst →
                                ∃ (I : Int × Int × Unit → Unit × (Int × Unit) × List Int × Unit → Prop),
                                  ∃ (μ : Int × Int × Unit → Unit × (Int × Unit) × List Int × Unit → Nat),
                                    (x.fst = x.fst ∧ I (y.snd.fst, y.fst, ()) ((), ((0 : Int), ()), y_1.fst, ())) ∧
                                      ∀ (y : Int × Int × Unit) (z : Unit × (Int × Unit) × List Int × Unit),
                                        Kd.wf (Kd.int IntKind.i64) y.fst ∧ Kd.wf (Kd.int IntKind.i64) y.snd.fst ∧ True →
                                          True ∧ (Kd.wf (Kd.int IntKind.i64) z.snd.fst.fst ∧ True) ∧ Kd.wf (Kd.sl (Kd.int IntKind.i64)) z.snd.snd.fst ∧ True →
                                            I y z →
                                              (decide (y.fst < (↑(List.length x.fst) : Int)) = true →
                                                  (decide ((↑(List.length z.snd.snd.fst) : Int) = (20 : Int)) = true → ([], (32 : Int)) = DecD x.fst) ∧
                                                    (decide ((↑(List.length z.snd.snd.fst) : Int) = (20 : Int)) = false →
                                                      (0 : Int) ≤ y.fst ∧
                                                        (∀ (y_2 : Int × Int × Unit),
                                                            Kd.wf (Kd.int IntKind.i64) y_2.fst ∧ Kd.wf (Kd.int IntKind.i64) y_2.snd.fst ∧ True →
                                                              NextD x.fst y.fst = (y_2.fst, y_2.snd.fst, (0 : Int)) →
                                                                (0 : Nat) < (1 : Nat) ∧
                                                                  (List.length z.snd.snd.fst + List.length [y_2.fst]) * (8 : Nat) ≤ (140737488355328 : Nat) ∧
                                                                    List.length z.snd.snd.fst + List.length [y_2.fst] ≤ (9223372036854775807 : Nat) ∧
                                                                      x.fst = x.fst ∧
                                                                        I (y_2.snd.fst, y_2.fst, ()) ((), (z.snd.fst.fst, ()), z.snd.snd.fst ++ [y_2.fst], ()) ∧
                                                                          μ (y_2.snd.fst, y_2.fst, ()) ((), (z.snd.fst.fst, ()), z.snd.snd.fst ++ [y_2.fst], ()) < μ y z) ∧
                                                          ∀ (y_2 : Int × Unit),
                                                            Kd.wf (Kd.pair (Kd.int IntKind.i64) Kd.unit) y_2 →
                                                              (NextD x.fst y.fst).snd.snd = y_2.fst ∧ y_2.fst ≠ (0 : Int) →
                                                                (1 : Nat) ≤ (65536 : Nat) ∧
                                                                  (((([], y_2.fst) = DecD x.fst ∧ True) ∧ True) ∧ ((([], y_2.fst) = DecD x.fst ∧ True) ∧ True) ∧ True) ∧
                                                                    (((([], y_2.fst) = DecD x.fst ∧ True) ∧ True) ∧ True) ∧ True)) ∧
                                                (decide (y.fst < (↑(List.length x.fst) : Int)) = false → (z.snd.snd.fst, (0 : Int)) = DecD x.fst)) ∧
                          True) ∧
                ∀ (y : Int × Unit),
                  Kd.wf (Kd.pair (Kd.int IntKind.i64) Kd.unit) y →
                    (NextD x.fst (0 : Int)).snd.snd = y.fst ∧ y.fst ≠ (0 : Int) →
                      (1 : Nat) ≤ (65536 : Nat) ∧
                        (((([], y.fst) = DecD x.fst ∧ True) ∧ True) ∧ ((([], y.fst) = DecD x.fst ∧ True) ∧ True) ∧ True) ∧ (((([], y.fst) = DecD x.fst ∧ True) ∧ True) ∧ True) ∧ True
theorem e6 : t6 = Con.vc c6 GL (mkEnv ty [(20, conSem c20), (21, conSem c21)] [] [(19, i19)] [0, 2, 3, 4, 5, 17, 20]) {} Try.f6.ntmps Try.f6.results.toList (bodyOf Try.f6) := by kernel_rfl
theorem k6 : t6 := by
  unfold t6
  rintro ⟨l, _⟩ hx hp
  have hwf : Kd.wf BY l := hx.1
  try dsimp +instances only [dft_int, dft_sl, dft_str]
  simp only [true_and, and_true, eq_self_iff_true, implies_true, reduceCtorEq, false_implies, true_implies, decide_eq_true_eq, decide_eq_false_iff_not, beq_self_eq_true, Bool.not_eq_true', ne_eq, Decidable.not_not, List.nil_append, List.length_singleton, List.length_cons, List.length_nil, Nat.zero_add, Nat.add_zero, Nat.mul_one, and_self, beq_iff_eq, Bool.not_true, Bool.not_false, Bool.not_eq_false', Bool.cond_false_right, Bool.and_eq_true, imp_self, Bool.not_eq_true, Bool.cond_true_left, Bool.or_eq_true]
  refine ⟨by decide, by decide, by decide, ?_, ?_⟩
  · rintro ⟨x, j, _⟩ _ e
    simp only at e ⊢
    have hok := next_ok hwf 0 (by decide) (by rw [e])
    rw [e] at hok
    simp only at hok
    refine ⟨hok.1, ?_⟩
    rintro ⟨s, _⟩ _ es
    simp only at es ⊢
    have hD : DecD l = decR l l.length (SplitD x) j := by rw [DecD, e, if_neg (by simp)]
    refine ⟨fun y z => 0 ≤ y.1 ∧ z.2.2.1.length ≤ 20 ∧ ∃ n : Nat, (l.length : Int) - y.1 ≤ n ∧ DecD l = decR l n z.2.2.1 y.1, fun y _ => ((l.length : Int) - y.1).toNat, ⟨by omega, by rw [es, split_len]; decide, l.length, by omega, by rw [es]; exact hD⟩, ?_⟩
    rintro ⟨i, v, _⟩ ⟨_, ⟨c, _⟩, acc, _⟩ _ _ ⟨h0, h20, n, hn, hd⟩
    simp only at h0 h20 hn hd ⊢
    refine ⟨fun hlt => ?_, fun hge => ?_⟩
    · obtain ⟨m, rfl⟩ : ∃ m, n = m + 1 := ⟨n - 1, by omega⟩
      rw [dec_step l m acc i hlt] at hd
      refine ⟨fun h => by rw [hd, if_pos (by omega)], fun h => ⟨h0, ?_, ?_⟩⟩
      · rintro ⟨x', j', _⟩ _ e'
        simp only at e' ⊢
        have hok' := next_ok hwf i h0 (by rw [e'])
        rw [e'] at hok'
        simp only at hok'
        rw [if_neg (by omega), e', if_neg (by simp)] at hd
        exact ⟨by decide, by omega, by omega, ⟨by omega, by simp; omega, m, by omega, hd⟩, by omega⟩
      · rintro ⟨q, _⟩ _ ⟨h1, h2⟩
        simp only at h1 h2 ⊢
        exact ⟨by decide, by rw [hd, if_neg (by omega), if_pos (by rw [h1]; exact h2), h1]⟩
    · rw [hd, dec_end l n acc i hge]
  · rintro ⟨q, _⟩ _ ⟨h1, h2⟩
    simp only at h1 h2 ⊢
    exact ⟨by decide, by rw [DecD, if_pos (by rw [h1]; exact h2), h1]⟩
theorem h6 : c6.ok Try.prog GL 6 := con_ok (H := {}) (mkEnv_ok (gl := GL) (l := [(20, conSem c20), (21, conSem c21)]) (q := []) (d := [(19, i19)]) _ tyOk (by kernel_rfl) ⟨h20.call, h21.call, trivial⟩ trivial ⟨i19_ok, trivial⟩) (by kernel_rfl) (by kernel_rfl) (Eq.mp e6 k6)

def t7 : Prop :=
  ∀ (x : List Int × Unit),
    Kd.wf (Kd.sl (Kd.int IntKind.u8)) x.fst ∧ True →
      True →
        (0 : Int) ≤ (0 : Int) ∧
          (∀ (y : Int × Int × Int × Unit),
              Kd.wf (Kd.int IntKind.i64) y.fst ∧ Kd.wf (Kd.int IntKind.i64) y.snd.fst ∧ Kd.wf (Kd.int IntKind.i64) y.snd.snd.fst ∧ True →
                NextD x.fst (0 : Int) = (y.fst, y.snd.fst, y.snd.snd.fst) →
                  (decide (y.snd.snd.fst ≠ (0 : Int)) = true → ([], y.snd.snd.fst) = DecD x.fst) ∧
                    (decide (y.snd.snd.fst ≠ (0 : Int)) = false →
                      ∃ (J : Unit → List Int × Unit → Prop),
                        ((decide (y.fst < (40 : Int)) = true →
                              Value.bool false = Value.bool false ∧
                                y.snd.snd.fst = y.snd.snd.fst ∧
                                  y.snd.fst = y.snd.fst ∧
                                    y.fst = y.fst ∧ (0 : Int) = (0 : Int) ∧ Value.slice none (0 : Nat) (0 : Nat) = Value.slice none (0 : Nat) (0 : Nat) ∧ x.fst = x.fst ∧ J () ([(0 : Int), y.fst], ())) ∧
                            (decide (y.fst < (40 : Int)) = false →
                              (decide (y.fst < (80 : Int)) = true →
                                  Value.bool false = Value.bool false ∧
                                    y.snd.snd.fst = y.snd.snd.fst ∧
                                      y.snd.fst = y.snd.fst ∧
                                        y.fst = y.fst ∧
                                          (0 : Int) = (0 : Int) ∧
                                            Value.slice none (0 : Nat) (0 : Nat) = Value.slice none (0 : Nat) (0 : Nat) ∧
                                              x.fst = x.fst ∧ J () ([(1 : Int), IntKind.wrap IntKind.i64 (y.fst - (40 : Int))], ())) ∧
                                (decide (y.fst < (80 : Int)) = false →
                                  Value.bool false = Value.bool false ∧
                                    y.snd.snd.fst = y.snd.snd.fst ∧
                                      y.snd.fst = y.snd.fst ∧
                                        y.fst = y.fst ∧
                                          (0 : Int) = (0 : Int) ∧
                                            Value.slice none (0 : Nat) (0 : Nat) = Value.slice none (0 : Nat) (0 : Nat) ∧
                                              x.fst = x.fst ∧ J () ([(2 : Int), IntKind.wrap IntKind.i64 (y.fst - (80 : Int))], ())))) ∧
                          ∀ (u : Unit) (z : List Int × Unit),
                            True →
                              Kd.wf (Kd.sl (Kd.int IntKind.i64)) z.fst ∧ True →
                                J u z →
                                  ∃ (I : Int × Int × Int × Int × Unit → List Int × List Int × Unit → Prop),
                                    ∃ (μ : Int × Int × Int × Int × Unit → List Int × List Int × Unit → Nat),
                                      (Value.bool false = Value.bool false ∧ x.fst = x.fst ∧ I (y.snd.snd.fst, y.snd.fst, y.fst, (0 : Int), ()) (z.fst, [], ())) ∧
                                        ∀ (y : Int × Int × Int × Int × Unit) (z : List Int × List Int × Unit),
                                          Kd.wf (Kd.int IntKind.i64) y.fst ∧
                                              Kd.wf (Kd.int IntKind.i64) y.snd.fst ∧ Kd.wf (Kd.int IntKind.i64) y.snd.snd.fst ∧ Kd.wf (Kd.int IntKind.i64) y.snd.snd.snd.fst ∧ True →
                                            Kd.wf (Kd.sl (Kd.int IntKind.i64)) z.fst ∧ Kd.wf (Kd.sl (Kd.int IntKind.i64)) z.snd.fst ∧ True →
                                              I y z →
                                                (decide (y.snd.fst < (↑(List.length x.fst) : Int)) = true →
                                                    (decide ((↑(List.length z.fst) : Int) = (20 : Int)) = true → ([], (32 : Int)) = DecD x.fst) ∧
                                                      (decide ((↑(List.length z.fst) : Int) = (20 : Int)) = false →
                                                        (0 : Int) ≤ y.snd.fst ∧
                                                          (∀ (y_1 : Int × Int × Int × Unit),
                                                              Kd.wf (Kd.int IntKind.i64) y_1.fst ∧ Kd.wf (Kd.int IntKind.i64) y_1.snd.fst ∧ Kd.wf (Kd.int IntKind.i64) y_1.snd.snd.fst ∧ True →
                                                                NextD x.fst y.snd.fst = (y_1.fst, y_1.snd.fst, y_1.snd.snd.fst) →
                                                                  (decide (y_1.snd.snd.fst ≠ (0 : Int)) = true → ([], y_1.snd.snd.fst) = DecD x.fst) ∧
                                                                    (decide (y_1.snd.snd.fst ≠ (0 : Int)) = false →
                                                                      (0 : Nat) < (1 : Nat) ∧
                                                                        (List.length z.fst + List.length [y_1.fst]) * (8 : Nat) ≤ (140737488355328 : Nat) ∧
                                                                          List.length z.fst + List.length [y_1.fst] ≤ (9223372036854775807 : Nat) ∧
                                                                            Value.bool false = Value.bool false ∧
                                                                              x.fst = x.fst ∧
                                                                                I (y_1.snd.snd.fst, y_1.snd.fst, y_1.fst, y.snd.snd.snd.fst, ()) (z.fst ++ [y_1.fst], z.snd.fst, ()) ∧
                                                                                  μ (y_1.snd.snd.fst, y_1.snd.fst, y_1.fst, y.snd.snd.snd.fst, ()) (z.fst ++ [y_1.fst], z.snd.fst, ()) < μ y z)) ∧
                                                            True)) ∧
                                                  (decide (y.snd.fst < (↑(List.length x.fst) : Int)) = false → (z.fst, (0 : Int)) = DecD x.fst))) ∧
            True
theorem e7 : t7 = Con.vc c7 GL (mkEnv ty [(22, conSem c22)] [] [] [0, 2, 3, 4, 5, 6, 7, 15, 21, 25, 32, 35, 44]) {joins := [9]} Try.f7.ntmps Try.f7.results.toList (bodyOf Try.f7) := by kernel_rfl
theorem k7 : t7 := by
  unfold t7
  rintro ⟨l, _⟩ hx hp
  have hwf : Kd.wf BY l := hx.1
  try dsimp +instances only [dft_int, dft_sl, dft_str]
  simp only [true_and, and_true, eq_self_iff_true, implies_true, reduceCtorEq, false_implies, true_implies, decide_eq_true_eq, decide_eq_false_iff_not, beq_self_eq_true, Bool.not_eq_true', ne_eq, Decidable.not_not, List.nil_append, List.length_singleton, List.length_cons, List.length_nil, Nat.zero_add, Nat.add_zero, Nat.mul_one, and_self, beq_iff_eq, Bool.not_true, Bool.not_false, Bool.not_eq_false', Bool.cond_false_right, Bool.and_eq_true, imp_self, Bool.not_eq_true, Bool.cond_true_left, Bool.or_eq_true]
  refine ⟨by decide, ?_⟩
  rintro ⟨x, j, c, _⟩ hy e
  simp only at e hy ⊢
  refine ⟨fun h => by rw [DecD, e, if_pos h], fun h => ?_⟩
  subst h
  have hok := next_ok hwf 0 (by decide) (by rw [e])
  rw [e] at hok
  simp only at hok
  have hD : DecD l = decR l l.length (SplitD x) j := by rw [DecD, e, if_neg (by simp)]
  refine ⟨fun _ z => z.1 = SplitD x, ⟨fun h => by rw [SplitD, if_pos h], fun h => ⟨fun h2 => ?_, fun h2 => ?_⟩⟩, ?_⟩
  · rw [SplitD, if_neg h, if_pos h2, wrapK _ (by omega) (by omega)]
  · rw [SplitD, if_neg h, if_neg h2, wrapK _ (by omega) (by omega)]
  rintro u ⟨s, _⟩ _ es
  simp only at es ⊢
  refine ⟨fun y z => 0 ≤ y.2.1 ∧ z.1.length ≤ 20 ∧ ∃ n : Nat, (l.length : Int) - y.2.1 ≤ n ∧ DecD l = decR l n z.1 y.2.1, fun y _ => ((l.length : Int) - y.2.1).toNat, ⟨by show 0 ≤ j; omega, by rw [es, split_len]; decide, l.length, by show (l.length : Int) - j ≤ _; omega, by rw [es]; exact hD⟩, ?_⟩
  rintro ⟨c0, i, v, r, _⟩ ⟨acc, r2, _⟩ _ _ ⟨h0, h20, n, hn, hd⟩
  simp only at h0 h20 hn hd ⊢
  refine ⟨fun hlt => ?_, fun hge => ?_⟩
  · obtain ⟨m, rfl⟩ : ∃ m, n = m + 1 := ⟨n - 1, by omega⟩
    rw [dec_step l m acc i hlt] at hd
    refine ⟨fun h => by rw [hd, if_pos (by omega)], fun h => ⟨h0, ?_⟩⟩
    rintro ⟨x', j', c', _⟩ _ e'
    simp only at e' ⊢
    rw [if_neg (by omega), e'] at hd
    refine ⟨fun h1 => by rw [hd, if_pos h1], fun h1 => ?_⟩
    subst h1
    have hok' := next_ok hwf i h0 (by rw [e'])
    rw [e'] at hok'
    simp only at hok'
    rw [if_neg (by simp)] at hd
    exact ⟨by decide, by omega, by omega, ⟨by omega, by simp; omega, m, by omega, hd⟩, by omega⟩
  · rw [hd, dec_end l n acc i hge]
theorem h7 : c7.ok Try.prog GL 7 := con_ok (H := {joins := [9]}) (mkEnv_ok (gl := GL) (l := [(22, conSem c22)]) (q := []) (d := []) _ tyOk (by kernel_rfl) ⟨h22.call, trivial⟩ trivial trivial) (by kernel_rfl) (by kernel_rfl) (Eq.mp e7 k7)

def t3 : Prop :=
  ∀ (x : List Int × Unit),
    Kd.wf (Kd.sl (Kd.int IntKind.u8)) x.fst ∧ True →
      ABulk [AK.dat (Kd.sl (Kd.int IntKind.u8))] x ≤ (1048576 : Nat) →
        (0 : Nat) < (1 : Nat) ∧
          ((0 : Nat) + List.length x.fst) * (1 : Nat) ≤ (140737488355328 : Nat) ∧
            (0 : Nat) + List.length x.fst ≤ (9223372036854775807 : Nat) ∧
              (0 : Nat) < (1 : Nat) ∧
                (List.length ([] ++ x.fst) + (1 : Nat)) * (1 : Nat) ≤ (140737488355328 : Nat) ∧
                  List.length ([] ++ x.fst) + (1 : Nat) ≤ (9223372036854775807 : Nat) ∧
                    ((0 : Int) ≤ (↑(List.length x.fst) : Int) ∧ (↑(List.length x.fst) : Int) ≤ (↑(List.length ([] ++ x.fst ++ [(90 : Int)])) : Int)) ∧
                      True ∧
                        (∀ (y : List Int × Int × Unit),
                            Kd.wf (Kd.sl (Kd.int IntKind.i64)) y.fst ∧ Kd.wf (Kd.int IntKind.i64) y.snd.fst ∧ True →
                              (y.fst, y.snd.fst) = DecD (List.take (Int.toNat (↑(List.length x.fst) : Int) - (0 : Nat)) (List.drop (0 : Nat) ([] ++ x.fst ++ [(90 : Int)]))) →
                                ((0 : Int) ≤ (↑(List.length x.fst) : Int) ∧ (↑(List.length x.fst) : Int) ≤ (↑(List.length ([] ++ x.fst ++ [(90 : Int)])) : Int)) ∧
                                  True ∧
                                    (∀ (y_1 : List Int × Int × Unit),
                                        Kd.wf (Kd.sl (Kd.int IntKind.i64)) y_1.fst ∧ Kd.wf (Kd.int IntKind.i64) y_1.snd.fst ∧ True →
                                          (y_1.fst, y_1.snd.fst) = DecD (List.take (Int.toNat (↑(List.length x.fst) : Int) - (0 : Nat)) (List.drop (0 : Nat) ([] ++ x.fst ++ [(90 : Int)]))) →
                                            True ∧
                                              (∀ (y_2 : List Int × Int × Unit),
                                                  Kd.wf (Kd.sl (Kd.int IntKind.i64)) y_2.fst ∧ Kd.wf (Kd.int IntKind.i64) y_2.snd.fst ∧ True →
                                                    (y_2.fst, y_2.snd.fst) = DecD x.fst →
                                                      (decide (y.snd.fst = y_2.snd.fst) = true → True) ∧
                                                        (decide (y.snd.fst = y_2.snd.fst) = true → True) ∧
                                                          (decide (y.snd.fst = y_2.snd.fst) = true → True) ∧
                                                            (decide (y.snd.fst = y_2.snd.fst) = true →
                                                                (decide (y.snd.fst = y_2.snd.fst) == true) = true ∧
                                                                  (decide (y.snd.fst = y_2.snd.fst) == true) = true ∧
                                                                    (decide (y.snd.fst = y_2.snd.fst) == true) = true ∧
                                                                      List.length y.fst ≤ (1000 : Nat) ∧
                                                                        (∀ (y_3 : Bool × Unit),
                                                                            Kd.wf Kd.bool y_3.fst ∧ True →
                                                                              (y.fst = y_2.fst → y_1.fst = y_2.fst → y_3.fst = true) →
                                                                                (y_3.fst = true → True) ∧
                                                                                  (y_3.fst = true → (y_3.fst == true) = true ∧ True) ∧
                                                                                    (y_3.fst = true → True) ∧
                                                                                      (y_3.fst = true → (y_3.fst == true) = true ∧ True) ∧
                                                                                        (y_3.fst = true → (y_3.fst == true) = true ∧ List.length x.fst + (1 : Nat) ≤ (9223372036854775807 : Nat) ∧ True) ∧
                                                                                          (y_3.fst = true → (y_3.fst == true) = true ∧ (y_3.fst == true) = true ∧ True) ∧
                                                                                            (y_3.fst = true → (y_3.fst == true) = true) ∧
                                                                                              ((bif y_3.fst then decide ([] ++ x.fst ++ [(90 : Int)] = x.fst ++ bs { data := #[(90 : UInt8)] })
                                                                                                    else false) =
                                                                                                    true →
                                                                                                  True ∧ (∀ (y : Bool × Unit), Kd.wf Kd.bool y.fst ∧ True → y.fst = true → y.fst = true) ∧ True) ∧
                                                                                                ((bif y_3.fst then decide ([] ++ x.fst ++ [(90 : Int)] = x.fst ++ bs { data := #[(90 : UInt8)] })
                                                                                                    else false) =
                                                                                                    !true →
                                                                                                  false = true)) ∧
                                                                          True) ∧
                                                              (decide (y.snd.fst = y_2.snd.fst) = !true → false = true)) ∧
                                                True) ∧
                                      True) ∧
                          True
theorem e3 : t3 = Con.vc c3 GL (mkEnv ty [(6, conSem c6), (7, conSem c7), (8, conSem c8), (9, conSem c9)] [] [] [0, 2, 3, 4, 5, 6, 8, 9]) {} Try.f3.ntmps Try.f3.results.toList (bodyOf Try.f3) := by kernel_rfl
theorem k3 : t3 := by
  unfold t3
  rintro ⟨l, _⟩ hx hp
  have hl : l.length ≤ 1048576 := by
    simp [ABulk, AK.bulk, Kd.bulk, sumOnes] at hp
    omega
  try dsimp +instances only [dft_int, dft_sl, dft_str]
  simp only [true_and, and_true, eq_self_iff_true, implies_true, reduceCtorEq, false_implies, true_implies, decide_eq_true_eq, decide_eq_false_iff_not, beq_self_eq_true, Bool.not_eq_true', ne_eq, Decidable.not_not, List.nil_append, List.length_singleton, List.length_cons, List.length_nil, Nat.zero_add, Nat.add_zero, Nat.mul_one, and_self, beq_iff_eq, Bool.not_true, Bool.not_false, Bool.not_eq_false', Bool.cond_false_right, Bool.and_eq_true, imp_self, Bool.not_eq_true, Bool.cond_true_left, Bool.or_eq_true]
  have et : List.take ((l.length : Int).toNat - 0) (List.drop 0 (l ++ [(90 : Int)])) = l := by simp
  rw [et]
  have hb : 0 ≤ (l.length : Int) ∧ (l.length : Int) ≤ ((l ++ [(90 : Int)]).length : Int) := ⟨by omega, by simp; omega⟩
  refine ⟨by decide, by omega, by omega, by decide, by omega, by omega, hb, ?_⟩
  rintro ⟨a1, c1, _⟩ _ e1
  refine ⟨hb, ?_⟩
  rintro ⟨a2, c2, _⟩ _ e2 ⟨a3, c3, _⟩ _ e3
  simp only at e1 e2 e3 ⊢
  cases e1.trans e3.symm
  cases e2.trans e3.symm
  have hal : a1.length ≤ 1000 := by
    have : a1 = (DecD l).1 := by rw [← e1]
    rw [this, DecD]
    split
    · simp
    · have := dec_len l l.length (SplitD (NextD l 0).1) (NextD l 0).2.1 (by rw [split_len]; decide)
      omega
  refine ⟨fun _ => ⟨rfl, rfl, rfl, hal, ?_⟩, fun h => h rfl⟩
  rintro ⟨q, _⟩ _ hq
  have hq : q = true := hq rfl rfl
  subst hq
  have e90 : bs { data := #[90] } = [(90 : Int)] := by decide
  rw [e90]
  exact ⟨fun h => ⟨h, by omega⟩, fun h => by simp at h⟩
theorem h3 : c3.ok Try.prog GL 3 := con_ok (H := {}) (mkEnv_ok (gl := GL) (l := [(6, conSem c6), (7, conSem c7), (8, conSem c8), (9, conSem c9)]) (q := []) (d := []) _ tyOk (by kernel_rfl) ⟨h6.call, h7.call, h8.call, h9.call, trivial⟩ trivial trivial) (by kernel_rfl) (by kernel_rfl) (Eq.mp e3 k3)

end Go.Proofs.Ytkdffofjnjamlaa
