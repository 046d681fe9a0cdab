import Derived.Test.YtiofbnlbfmbodaaGreatDoorZV09
set_option linter.unusedVariables false
set_option linter.unusedSimpArgs false
namespace Go.Pl
open Go.Vc
set_option linter.unusedVariables false
set_option linter.unusedSimpArgs false
def nextR : List Int → Int → Int → Int × Int × Int
  | [], _, _ => (0, 0, 10)
  | b :: r, v, p => if 2147483647 < v * 128 + b % 128 then (0, 0, 31) else if b < 128 then (v * 128 + b % 128, p + 1, 0) else nextR r (v * 128 + b % 128) (p + 1)
def NextD (l : List Int) (i : Int) : Int × Int × Int := if (l.drop i.toNat).headD 0 = 128 then (0, 0, 30) else nextR (l.drop i.toNat) 0 i
def SplitD (v : Int) : List Int := if v < 40 then [0, v] else if v < 80 then [1, v - 40] else [2, v - 80]
def decR (l : List Int) : Nat → List Int → Int → List Int × Int
  | 0, acc, _ => (acc, 0)
  | n + 1, acc, i => if i < l.length then (if acc.length = 20 then ([], 32) else if (NextD l i).2.2 ≠ 0 then ([], (NextD l i).2.2) else decR l n (acc ++ [(NextD l i).1]) (NextD l i).2.1) else (acc, 0)
def DecD (l : List Int) : List Int × Int := if (NextD l 0).2.2 ≠ 0 then ([], (NextD l 0).2.2) else decR l l.length (SplitD (NextD l 0).1) (NextD l 0).2.1
theorem head_drop (l : List Int) (n : Nat) : (l.drop n).headD 0 = l.getD n 0 := by
  rw [List.headD_eq_head?_getD, List.head?_drop, List.getD_eq_getElem?_getD]
theorem next_go (l : List Int) (i : Int) (h : l.getD i.toNat 0 ≠ 128) : NextD l i = nextR (l.drop i.toNat) 0 i := by
  rw [NextD, head_drop, if_neg h]
theorem next_30 (l : List Int) (i : Int) (h : l.getD i.toNat 0 = 128) : NextD l i = (0, 0, 30) := by
  rw [NextD, head_drop, if_pos h]
theorem nextR_ok : ∀ (s : List Int) (v p : Int), Bys s → 0 ≤ v → (nextR s v p).2.2 = 0 → 0 ≤ (nextR s v p).1 ∧ (nextR s v p).1 ≤ 2147483647 ∧ p < (nextR s v p).2.1 ∧ (nextR s v p).2.1 ≤ p + s.length
  | [], _, _, _, _, h => by simp [nextR] at h
  | b :: r, v, p, hb, hv, h => by
    have h0 := hb b (by simp)
    have hl : ((b :: r).length : Int) = r.length + 1 := by simp
    rw [hl]
    unfold nextR at h ⊢
    by_cases h1 : 2147483647 < v * 128 + b % 128
    . rw [if_pos h1] at h; simp at h
    . rw [if_neg h1] at h ⊢
      by_cases h2 : b < 128
      . rw [if_pos h2]
        refine ⟨by show 0 ≤ v * 128 + b % 128; omega, by show v * 128 + b % 128 ≤ _; omega, by show p < p + 1; omega, by show p + 1 ≤ _; omega⟩
      . rw [if_neg h2] at h ⊢
        have ih := nextR_ok r (v * 128 + b % 128) (p + 1) (fun x hx => hb x (List.mem_cons_of_mem _ hx)) (by omega) h
        omega
theorem next_ok {l : List Int} (hw : Bys l) (i : Int) (h0 : 0 ≤ i) (h : (NextD l i).2.2 = 0) : 0 ≤ (NextD l i).1 ∧ (NextD l i).1 ≤ 2147483647 ∧ i < (NextD l i).2.1 := by
  by_cases h1 : l.getD i.toNat 0 = 128
  . rw [next_30 l i h1] at h; simp at h
  . rw [next_go l i h1] at h ⊢
    have := nextR_ok (l.drop i.toNat) 0 i (bys_drop hw _) (by decide) h
    omega
theorem dec_step (l : List Int) (m : Nat) (acc : List Int) (i : Int) (h : i < l.length) :
    decR l (m + 1) acc i = if acc.length = 20 then ([], 32) else if (NextD l i).2.2 ≠ 0 then ([], (NextD l i).2.2) else decR l m (acc ++ [(NextD l i).1]) (NextD l i).2.1 := by
  rw [decR, if_pos h]
theorem dec_end (l : List Int) (n : Nat) (acc : List Int) (i : Int) (h : ¬ i < l.length) : decR l n acc i = (acc, 0) := by
  cases n with
  | zero => rfl
  | succ n => rw [decR, if_neg h]
theorem splitD_len (v : Int) : (SplitD v).length = 2 := by
  unfold SplitD
  split
  . rfl
  . split <;> rfl
theorem and7 (b : Int) (h : 0 ≤ b ∧ b ≤ 255) : IntKind.wrap .u8 ↑(BitVec.ofInt 8 b &&& BitVec.ofInt 8 127).toNat = b % 128 := by
  have key : ∀ b : Fin 256, IntKind.wrap .u8 ↑(BitVec.ofInt 8 (b.val : Int) &&& BitVec.ofInt 8 127).toNat = (b.val : Int) % 128 := by decide +kernel
  have := key ⟨b.toNat, by omega⟩
  simpa [Int.toNat_of_nonneg h.1] using this
theorem or7 (v b : Int) (hb : 0 ≤ b ∧ b ≤ 255) (hv : 0 ≤ v ∧ v ≤ 2147483647) :
    IntKind.wrap .i64 ↑(BitVec.ofInt 64 (IntKind.wrap .i64 (v * 2 ^ 7)) ||| BitVec.ofInt 64 (IntKind.wrap .i64 (IntKind.wrap .u8 ↑(BitVec.ofInt 8 b &&& BitVec.ofInt 8 127).toNat))).toNat = v * 128 + b % 128 := by
  have w1 : IntKind.wrap .i64 (v * 2 ^ 7) = v * 128 := wrapK _ (by omega) (by omega)
  rw [and7 b hb, w1, wrapK (b % 128) (by omega) (by omega), BitVec.toNat_or, BitVec.toNat_ofInt, BitVec.toNat_ofInt]
  have e1 : (v * 128 % ((2 ^ 64 : Nat) : Int)).toNat = v.toNat <<< 7 := by rw [Nat.shiftLeft_eq]; omega
  have e2 : (b % 128 % ((2 ^ 64 : Nat) : Int)).toNat = (b % 128).toNat := by omega
  rw [e1, e2, ← Nat.shiftLeft_add_eq_or_of_lt (by omega), Nat.shiftLeft_eq, wrapK _ (by omega) (by omega)]
  omega
theorem pow_pos128 (k : Nat) : (0 : Int) < 128 ^ k := Int.pow_pos (by decide)
theorem pow_divs (n : Int) (k : Nat) : n / 128 ^ (k + 1) = n / 128 ^ k / 128 := by
  rw [Int.pow_succ, Int.ediv_ediv_of_nonneg (Int.le_of_lt (pow_pos128 k))]
theorem div_le {n : Int} (h : 0 ≤ n) (k : Nat) : 0 ≤ n / 128 ^ k ∧ n / 128 ^ k ≤ n :=
  ⟨Int.ediv_nonneg h (Int.le_of_lt (pow_pos128 k)), Int.ediv_le_self _ h⟩
theorem next_hi {n : Int} (h0 : 0 ≤ n) (h1 : n ≤ 2147483647) (r : List Int) : ∀ (j : Nat) (p : Int), nextR (hiD j n ++ [n % 128] ++ r) (n / 128 ^ (j + 1)) p = (n, p + j + 1, 0)
  | 0, p => by
    have e : n / 128 ^ (0 + 1) * 128 + n % 128 % 128 = n := by simp; omega
    simp only [hiD, List.nil_append, List.singleton_append]
    rw [nextR, e, if_neg (by omega), if_pos (by omega)]
    simp
  | j + 1, p => by
    have hd := div_le h0 (j + 1)
    have e : n / 128 ^ (j + 1 + 1) * 128 + (128 + n / 128 ^ (j + 1) % 128) % 128 = n / 128 ^ (j + 1) := by rw [pow_divs n (j + 1)]; omega
    rw [hiD, List.cons_append, List.cons_append, nextR, e, if_neg (by omega), if_neg (by omega), next_hi h0 h1 r j (p + 1)]
    simp only [Prod.mk.injEq, true_and, and_true]
    omega
theorem num_head {n : Int} (h0 : 0 ≤ n) (h1 : n ≤ 2147483647) (r : List Int) : (numO n ++ r).headD 0 ≠ 128 := by
  have hb := hi_bounds n h0 h1
  unfold numO
  generalize hiN n = k at hb
  cases k with
  | zero => simp [hiD]; omega
  | succ k =>
    have := hb.2.1 (by omega)
    have := hb.1
    simp only [hiD, List.cons_append, List.headD_cons]
    omega
theorem next_num {n : Int} (h0 : 0 ≤ n) (h1 : n ≤ 2147483647) {l r : List Int} {i : Int} (e : l.drop i.toNat = numO n ++ r) : NextD l i = (n, i + (numO n).length, 0) := by
  have hb := hi_bounds n h0 h1
  rw [NextD, if_neg (by rw [e]; exact num_head h0 h1 r), e]
  have h := next_hi h0 h1 r (hiN n) i
  rw [pow_divs, show n / 128 ^ hiN n / 128 = 0 from Int.ediv_eq_zero_of_lt (div_le h0 _).1 hb.1] at h
  rw [numO, h, List.length_append, hi_length]
  simp only [List.length_singleton, Prod.mk.injEq, true_and, and_true]
  omega
theorem hi_next : ∀ (s : List Int) (v p n j : Int), Bys s → 0 ≤ v → nextR s v p = (n, j, 0) →
    0 ≤ n ∧ n ≤ 2147483647 ∧ ∃ m : Nat, j = p + m + 1 ∧ n / 128 ^ (m + 1) = v ∧ s = hiD m n ++ [n % 128] ++ s.drop (m + 1)
  | [], v, p, n, j, _, _, h => by simp [nextR] at h
  | b :: r, v, p, n, j, hb, hv, h => by
    have h0 := hb b (by simp)
    unfold nextR at h
    by_cases h1 : 2147483647 < v * 128 + b % 128
    . rw [if_pos h1] at h; simp at h
    . rw [if_neg h1] at h
      by_cases h2 : b < 128
      . rw [if_pos h2] at h
        simp only [Prod.mk.injEq, and_true] at h
        obtain ⟨e1, e2⟩ := h
        refine ⟨by omega, by omega, 0, by omega, by simp; omega, ?_⟩
        simp only [hiD, List.nil_append, List.singleton_append, Nat.zero_add, List.drop_succ_cons, List.drop_zero]
        congr 1
        omega
      . rw [if_neg h2] at h
        obtain ⟨g0, g1, m, e1, e2, e3⟩ := hi_next r _ (p + 1) n j (fun x hx => hb x (List.mem_cons_of_mem _ hx)) (by omega) h
        refine ⟨g0, g1, m + 1, by omega, by rw [pow_divs, e2]; omega, ?_⟩
        rw [hiD, List.drop_succ_cons, List.cons_append, List.cons_append, ← e3, e2]
        congr 1
        omega
theorem num_next {l : List Int} (hl : Bys l) {i n j : Int} (hi : 0 ≤ i) (h : NextD l i = (n, j, 0)) : 0 ≤ n ∧ n ≤ 2147483647 ∧ i < j ∧ l.drop i.toNat = numO n ++ l.drop j.toNat := by
  by_cases h1 : l.getD i.toNat 0 = 128
  . rw [next_30 l i h1] at h; simp at h
  rw [next_go l i h1] at h
  obtain ⟨g0, g1, m, e1, e2, e3⟩ := hi_next _ _ _ _ _ (bys_drop hl _) (by decide) h
  have hk : hiN n = m := by
    have hlt : n / 128 ^ m < 128 := by
      rw [pow_divs] at e2
      have := (div_le g0 m).1
      omega
    have hpos : 0 < m → 0 < n / 128 ^ m := fun hm => by
      obtain ⟨k, rfl⟩ : ∃ k, m = k + 1 := ⟨m - 1, by omega⟩
      have hh : l.getD i.toNat 0 = 128 + n / 128 ^ (k + 1) % 128 := by
        rw [← head_drop, e3]
        simp [hiD]
      have := (div_le g0 (k + 1)).1
      omega
    refine hi_is g0 ?_ hlt hpos
    by_cases h4 : m ≤ 4
    . exact h4
    . have := hpos (by omega)
      have hp : (128 : Int) ^ 5 ≤ 128 ^ m := by
        obtain ⟨d, rfl⟩ : ∃ d, m = 5 + d := ⟨m - 5, by omega⟩
        rw [Int.pow_add]
        have := pow_pos128 d
        calc (128 : Int) ^ 5 = 128 ^ 5 * 1 := by simp
          _ ≤ 128 ^ 5 * 128 ^ d := Int.mul_le_mul_of_nonneg_left (by omega) (by decide)
      rw [Int.ediv_eq_zero_of_lt g0 (by have e5 : (128 : Int) ^ 5 = 34359738368 := by decide
                                        omega)] at this
      omega
  refine ⟨g0, g1, by omega, ?_⟩
  rw [e3, List.drop_drop, numO, hk, show i.toNat + (m + 1) = j.toNat by omega]
theorem split_num {a b : Int} (h0 : 0 ≤ b) (ha : 0 ≤ a) (h : if a < 2 then b < 40 else a = 2) : SplitD (40 * a + b) = [a, b] := by
  unfold SplitD
  by_cases h1 : a < 2
  . rw [if_pos h1] at h
    by_cases h2 : a = 0
    . subst h2; rw [if_pos (by omega)]; simp
    . have : a = 1 := by omega
      subst this
      rw [if_neg (by omega), if_pos (by omega)]
      simp; omega
  . rw [if_neg h1] at h
    subst h
    rw [if_neg (by omega), if_neg (by omega)]
    simp; omega
theorem dec_flat {l : List Int} : ∀ (rest : List Int) (n : Nat) (acc : List Int) (i : Int), 0 ≤ i → (∀ a ∈ rest, 0 ≤ a ∧ a ≤ 2147483647) → l.drop i.toNat = rest.flatMap numO → (l.length : Int) - i ≤ n → acc.length + rest.length ≤ 20 → decR l n acc i = (acc ++ rest, 0)
  | [], n, acc, i, hi, _, e, hn, _ => by
    rw [dec_end, List.append_nil]
    rw [List.flatMap_nil, List.drop_eq_nil_iff] at e
    omega
  | a :: rest, n, acc, i, hi, ha, e, hn, h20 => by
    have h0 := ha a (by simp)
    rw [List.flatMap_cons] at e
    have hl := congrArg List.length e
    have hn1 := num_length a
    rw [List.length_drop, List.length_append] at hl
    obtain ⟨m, rfl⟩ : ∃ m, n = m + 1 := ⟨n - 1, by omega⟩
    rw [List.length_cons] at h20
    rw [dec_step l m acc i (by omega), if_neg (by omega), next_num h0.1 h0.2 e]
    simp only [ne_eq, not_true_eq_false, if_false]
    rw [dec_flat rest m _ _ (by omega) (fun x hx => ha x (List.mem_cons_of_mem _ hx)) ?_ (by omega) (by simp; omega)]
    . simp
    . rw [show (i + ((numO a).length : Int)).toNat = i.toNat + (numO a).length by omega, ← List.drop_drop, e, List.drop_left]
theorem two_of {m : List Int} (h : 2 ≤ m.length) : m = m.getD 0 0 :: m.getD 1 0 :: m.drop 2 := by
  match m, h with
  | a :: b :: r, _ => rfl
theorem may_first {m : List Int} (h : mayO m = true) : if m.getD 0 0 < 2 then m.getD 1 0 < 40 else m.getD 0 0 = 2 := by
  simp only [mayO, Bool.and_eq_true, decide_eq_true_eq] at h
  have h4 := h.2
  by_cases h1 : m.getD 0 0 < 2
  . rw [if_pos h1] at h4 ⊢; exact of_decide_eq_true h4
  . rw [if_neg h1] at h4 ⊢
    by_cases h2 : m.getD 0 0 = 2
    . exact h2
    . rw [if_neg h2] at h4; cases h4
theorem dec_enc {m : List Int} (h : mayO m = true) : DecD (encO m) = (m, 0) := by
  obtain ⟨h1, h2, h3, h4, h5⟩ := may_args h
  have e : (encO m).drop (0 : Int).toNat = numO (40 * m.getD 0 0 + m.getD 1 0) ++ (m.drop 2).flatMap numO := rfl
  have hn := next_num h4 h5 e
  rw [DecD, hn]
  simp only [ne_eq, not_true_eq_false, if_false]
  have m0 : 0 ≤ m.getD 0 0 := (h3 _ (mem_getD 0 m 0 (by omega))).1
  have m1 : 0 ≤ m.getD 1 0 := (h3 _ (mem_getD 0 m 1 (by omega))).1
  rw [split_num m1 m0 (may_first h)]
  rw [dec_flat (m.drop 2) _ _ _ (by omega) (fun a ha => h3 a (List.mem_of_mem_drop ha)) ?_ (by omega) (by simp; omega)]
  . congr 1
    exact (two_of h1).symm
  . rw [Int.zero_add, Int.toNat_natCast]
    show (numO (40 * m.getD 0 0 + m.getD 1 0) ++ (m.drop 2).flatMap numO).drop _ = _
    rw [List.drop_left]
theorem flat_dec {l : List Int} (hl : Bys l) : ∀ (n : Nat) (acc x : List Int) (i : Int), 0 ≤ i → (l.length : Int) - i ≤ n → acc.length ≤ 20 → decR l n acc i = (x, 0) →
    x.length ≤ 20 ∧ ∃ rest, x = acc ++ rest ∧ l.drop i.toNat = rest.flatMap numO ∧ ∀ a ∈ rest, 0 ≤ a ∧ a ≤ 2147483647
  | 0, acc, x, i, hi, hn, h20, h => by
    obtain ⟨rfl, _⟩ := Prod.mk.inj h
    exact ⟨h20, [], by simp, by rw [List.drop_of_length_le (by omega)]; rfl, fun a ha => by cases ha⟩
  | n + 1, acc, x, i, hi, hn, h20, h => by
    by_cases hlt : i < l.length
    . rw [dec_step l n acc i hlt] at h
      by_cases h1 : acc.length = 20
      . rw [if_pos h1] at h; simp at h
      rw [if_neg h1] at h
      by_cases h2 : (NextD l i).2.2 = 0
      . rw [if_neg (by simp [h2])] at h
        have hne : NextD l i = ((NextD l i).1, (NextD l i).2.1, 0) := by rw [← h2]
        obtain ⟨g0, g1, g2, g3⟩ := num_next hl hi hne
        obtain ⟨k1, rest, k2, k3, k4⟩ := flat_dec hl n _ x _ (by omega) (by omega) (by simp; omega) h
        refine ⟨k1, (NextD l i).1 :: rest, by rw [k2]; simp, by rw [g3, k3]; rfl, fun a ha => ?_⟩
        rcases List.mem_cons.1 ha with rfl | ha
        . exact ⟨g0, g1⟩
        . exact k4 a ha
      . rw [if_pos h2] at h
        exact absurd (Prod.mk.inj h).2 h2
    . rw [dec_end l _ acc i hlt] at h
      obtain ⟨rfl, _⟩ := Prod.mk.inj h
      exact ⟨h20, [], by simp, by rw [List.drop_of_length_le (by omega)]; rfl, fun a ha => by cases ha⟩
theorem split_may {v : Int} (h0 : 0 ≤ v) (h1 : v ≤ 2147483647) {rest : List Int} (hr : ∀ a ∈ rest, 0 ≤ a ∧ a ≤ 2147483647) (hl : (SplitD v ++ rest).length ≤ 20) : mayO (SplitD v ++ rest) = true ∧ encO (SplitD v ++ rest) = numO v ++ rest.flatMap numO := by
  have key : ∀ a b : Int, 0 ≤ a → 0 ≤ b → a ≤ 2 → (if a < 2 then b < 40 else b ≤ 2147483567) → 40 * a + b = v → SplitD v = [a, b] → mayO (SplitD v ++ rest) = true ∧ encO (SplitD v ++ rest) = numO v ++ rest.flatMap numO := by
    intro a b ha hb ha2 hab hv e
    rw [e] at hl ⊢
    have e0 : ([a, b] ++ rest).getD 0 0 = a := rfl
    have e1 : ([a, b] ++ rest).getD 1 0 = b := rfl
    refine ⟨?_, ?_⟩
    . rw [may_rest (by simp) hl (fun j hj => ?_), e0, e1]
      . by_cases h2 : a < 2
        . rw [if_pos h2] at hab ⊢; exact decide_eq_true hab
        . rw [if_neg h2] at hab ⊢
          rw [if_pos (by omega)]; exact decide_eq_true hab
      . have hb2 : b ≤ 2147483647 := by by_cases h2 : a < 2
                                        . rw [if_pos h2] at hab; omega
                                        . rw [if_neg h2] at hab; omega
        have hm := mem_getD (0 : Int) ([a, b] ++ rest) j hj
        rcases List.mem_append.1 hm with hm | hm
        . simp only [List.mem_cons, List.not_mem_nil, or_false] at hm
          omega
        . exact hr _ hm
    . rw [encO, e0, e1, hv]; rfl
  unfold SplitD at key ⊢
  by_cases h2 : v < 40
  . rw [if_pos h2] at key ⊢
    exact key 0 v (by omega) h0 (by omega) (by rw [if_pos (by omega)]; exact h2) (by omega) rfl
  . rw [if_neg h2] at key ⊢
    by_cases h3 : v < 80
    . rw [if_pos h3] at key ⊢
      exact key 1 (v - 40) (by omega) (by omega) (by omega) (by rw [if_pos (by omega)]; omega) (by omega) rfl
    . rw [if_neg h3] at key ⊢
      exact key 2 (v - 80) (by omega) (by omega) (by omega) (by rw [if_neg (by omega)]; omega) (by omega) rfl
theorem enc_dec {l x : List Int} (hl : Bys l) (h : DecD l = (x, 0)) : mayO x = true ∧ encO x = l := by
  unfold DecD at h
  by_cases h2 : (NextD l 0).2.2 = 0
  . rw [if_neg (by simp [h2])] at h
    have hne : NextD l 0 = ((NextD l 0).1, (NextD l 0).2.1, 0) := Prod.ext rfl (Prod.ext rfl h2)
    obtain ⟨g0, g1, g2, g3⟩ := num_next hl (by decide) hne
    obtain ⟨k1, rest, k2, k3, k4⟩ := flat_dec hl _ _ x _ (by omega) (by omega) (by rw [splitD_len]; decide) h
    rw [k2] at k1
    obtain ⟨r1, r2⟩ := split_may g0 g1 k4 k1
    rw [k2]
    refine ⟨r1, ?_⟩
    rw [r2, ← k3, ← g3]; rfl
  . rw [if_pos h2] at h
    exact absurd (Prod.mk.inj h).2 h2
end Go.Pl
