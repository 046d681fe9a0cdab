/- Texts of a verified walk, led together: Oid, NamP. -/
import Derived.Test.YtbdfeddakniaeaaDoorZV06
import Derived.Lib.ItoaNum
import Derived.Lib.Join
import Derived.Lib.AtoiTie
import Derived.Test.YtbdfeddakniaeaaDoorZV07
set_option linter.unusedVariables false
set_option linter.unusedSimpArgs false
section
namespace Go.Pl
open Go.Vc
set_option linter.unusedVariables false
set_option linter.unusedSimpArgs false
def inArc (a : Int) : Bool := decide (0 ≤ a) && decide (a ≤ 2147483647)
def mayO (l : List Int) : Bool :=
  decide (2 ≤ l.length) && decide (l.length ≤ 20) && l.all inArc && (if l.getD 0 0 < 2 then decide (l.getD 1 0 < 40) else if l.getD 0 0 = 2 then decide (l.getD 1 0 ≤ 2147483567) else false)
def hiD : Nat → Int → List Int
  | 0, _ => []
  | k + 1, n => (128 + n / 128 ^ (k + 1) % 128) :: hiD k n
def hiN (n : Int) : Nat := if n < 128 then 0 else if n < 16384 then 1 else if n < 2097152 then 2 else if n < 268435456 then 3 else 4
def numO (n : Int) : List Int := hiD (hiN n) n ++ [n % 128]
def encO (l : List Int) : List Int := numO (40 * l.getD 0 0 + l.getD 1 0) ++ (l.drop 2).flatMap numO
def EncO (l : List Int) : List Int × Int := if mayO l then (encO l, 0) else ([], 2)
theorem may_args {l : List Int} (h : mayO l = true) : 2 ≤ l.length ∧ l.length ≤ 20 ∧ (∀ a ∈ l, 0 ≤ a ∧ a ≤ 2147483647) ∧ 0 ≤ 40 * l.getD 0 0 + l.getD 1 0 ∧ 40 * l.getD 0 0 + l.getD 1 0 ≤ 2147483647 := by
  simp only [mayO, Bool.and_eq_true, decide_eq_true_eq, List.all_eq_true, inArc] at h
  obtain ⟨⟨⟨h1, h2⟩, h3⟩, h4⟩ := h
  have m0 : l.getD 0 0 ∈ l := by
    rw [List.getD_eq_getElem?_getD, List.getElem?_eq_getElem (show 0 < l.length by omega)]
    exact List.getElem_mem _
  have m1 : l.getD 1 0 ∈ l := by
    rw [List.getD_eq_getElem?_getD, List.getElem?_eq_getElem (show 1 < l.length by omega)]
    exact List.getElem_mem _
  have g0 := h3 _ m0
  have g1 := h3 _ m1
  refine ⟨h1, h2, h3, by omega, ?_⟩
  split at h4
  . have := of_decide_eq_true h4; omega
  . split at h4
    . have := of_decide_eq_true h4; omega
    . cases h4
theorem hi_bounds (n : Int) (h : 0 ≤ n) (hn : n ≤ 2147483647) : n / 128 ^ (hiN n) < 128 ∧ (0 < hiN n → 0 < n / 128 ^ hiN n) ∧ hiN n ≤ 4 := by
  unfold hiN
  split
  . exact ⟨by simp; omega, by omega, by omega⟩
  . split
    . exact ⟨by simp; omega, by simp; omega, by omega⟩
    . split
      . exact ⟨by simp; omega, by simp; omega, by omega⟩
      . split
        . exact ⟨by simp; omega, by simp; omega, by omega⟩
        . exact ⟨by simp; omega, by simp; omega, by omega⟩
theorem hi_is {n : Int} {k : Nat} (h : 0 ≤ n) (hk : k ≤ 4) (h1 : n / 128 ^ k < 128) (h2 : 0 < k → 0 < n / 128 ^ k) : hiN n = k := by
  unfold hiN
  have : k = 0 ∨ k = 1 ∨ k = 2 ∨ k = 3 ∨ k = 4 := by omega
  rcases this with rfl | rfl | rfl | rfl | rfl
  . simp at h1; rw [if_pos h1]
  . simp at h1 h2; rw [if_neg (by omega), if_pos (by omega)]
  . simp at h1 h2; rw [if_neg (by omega), if_neg (by omega), if_pos (by omega)]
  . simp at h1 h2; rw [if_neg (by omega), if_neg (by omega), if_neg (by omega), if_pos (by omega)]
  . simp at h1 h2; rw [if_neg (by omega), if_neg (by omega), if_neg (by omega), if_neg (by omega)]
def lenI (l : List Int) : Nat := l.length
theorem may_len {l : List Int} (h : (l.length : Int) < 2 ∨ 20 < (l.length : Int)) : mayO l = false := by
  cases hm : mayO l with
  | false => rfl
  | true => have := may_args hm; omega
theorem may_in {l : List Int} {i : Nat} (hi : i < l.length) (h : l.getD i 0 < 0 ∨ 2147483647 < l.getD i 0) : mayO l = false := by
  cases hm : mayO l with
  | false => rfl
  | true =>
    have := (may_args hm).2.2.1 (l.getD i 0) (by
      rw [List.getD_eq_getElem?_getD, List.getElem?_eq_getElem hi]
      exact List.getElem_mem _)
    omega
theorem may_rest {l : List Int} (h1 : 2 ≤ l.length) (h2 : l.length ≤ 20) (h3 : ∀ j, j < l.length → 0 ≤ l.getD j 0 ∧ l.getD j 0 ≤ 2147483647) :
    mayO l = (if l.getD 0 0 < 2 then decide (l.getD 1 0 < 40) else if l.getD 0 0 = 2 then decide (l.getD 1 0 ≤ 2147483567) else false) := by
  have ha : l.all inArc = true := by
    rw [List.all_eq_true]
    intro a ha
    obtain ⟨i, hi, e⟩ := List.mem_iff_getElem.1 ha
    have := h3 i hi
    rw [List.getD_eq_getElem?_getD, List.getElem?_eq_getElem hi] at this
    simp only [Option.getD_some, e] at this
    simp only [inArc, Bool.and_eq_true, decide_eq_true_eq]
    exact this
  rw [mayO, decide_eq_true h1, decide_eq_true h2, ha]
  simp
theorem hi_length : ∀ (k : Nat) (n : Int), (hiD k n).length = k
  | 0, _ => rfl
  | k + 1, n => by rw [hiD, List.length_cons, hi_length k n]
theorem hiN_le (n : Int) : hiN n ≤ 4 := by
  unfold hiN
  split
  . omega
  split
  . omega
  split
  . omega
  split <;> omega
theorem num_length (n : Int) : (numO n).length ≤ 5 ∧ 1 ≤ (numO n).length := by
  rw [numO, List.length_append, hi_length]
  have := hiN_le n
  simp
  omega
theorem pow_div (n : Int) (j : Nat) (hj : j ≤ 4) : n / 128 ^ (j + 1) = n / 128 ^ j / 128 := by
  have : j = 0 ∨ j = 1 ∨ j = 2 ∨ j = 3 ∨ j = 4 := by omega
  rcases this with rfl | rfl | rfl | rfl | rfl <;> simp only [Nat.reduceAdd, Int.reducePow] <;> omega
theorem shift_div (n : Int) (j : Nat) (h : 0 ≤ n) (hj : j ≤ 4) : n.fdiv (2 ^ min (7 * (j : Int)).toNat 64) = n / 128 ^ j := by
  have : j = 0 ∨ j = 1 ∨ j = 2 ∨ j = 3 ∨ j = 4 := by omega
  rcases this with rfl | rfl | rfl | rfl | rfl <;> (rw [Int.fdiv_eq_ediv_of_nonneg _ (by decide)]; rfl)
theorem small4 {n : Int} (hn : n ≤ 2147483647) : n / 128 ^ 4 ≤ 7 := by simp only [Int.reducePow]; omega
set_option maxRecDepth 100000 in
theorem or_bits : ∀ k : Fin 256, (BitVec.ofInt 8 (k.1 : Int) ||| BitVec.ofInt 8 128).toNat = 128 + k.1 % 128 := by decide
set_option maxRecDepth 100000 in
theorem and_bits : ∀ k : Fin 256, (BitVec.ofInt 8 (k.1 : Int) &&& BitVec.ofInt 8 127).toNat = k.1 % 128 := by decide
theorem wrap_u8 (m : Int) : IntKind.wrap .u8 m = m % 256 := by simp [IntKind.wrap, IntKind.signed, IntKind.bits]
theorem or128 (m : Int) : IntKind.wrap .u8 ↑(BitVec.ofInt 8 (IntKind.wrap .u8 m) ||| BitVec.ofInt 8 128).toNat = 128 + m % 128 := by
  have h := or_bits ⟨(m % 256).toNat, by omega⟩
  simp only at h
  rw [wrap_u8 m, show m % 256 = ((m % 256).toNat : Int) by omega, h, wrap_u8]
  omega
theorem and127 (m : Int) : IntKind.wrap .u8 ↑(BitVec.ofInt 8 (IntKind.wrap .u8 m) &&& BitVec.ofInt 8 127).toNat = m % 128 := by
  have h := and_bits ⟨(m % 256).toNat, by omega⟩
  simp only at h
  rw [wrap_u8 m, show m % 256 = ((m % 256).toNat : Int) by omega, h, wrap_u8]
  omega
def encP (l : List Int) (i : Nat) : List Int := numO (40 * l.getD 0 0 + l.getD 1 0) ++ ((l.take i).drop 2).flatMap numO
theorem encP_two (l : List Int) : encP l 2 = numO (40 * l.getD 0 0 + l.getD 1 0) := by
  unfold encP
  rw [List.drop_eq_nil_of_le (by simp; omega)]
  simp
theorem encP_all {l : List Int} {i : Nat} (h : l.length ≤ i) : encP l i = encO l := by
  unfold encP encO
  rw [List.take_of_length_le h]
theorem encP_step {l : List Int} {i : Nat} (h2 : 2 ≤ i) (h : i < l.length) : encP l (i + 1) = encP l i ++ numO (l.getD i 0) := by
  unfold encP
  have e : l.take (i + 1) = l.take i ++ [l.getD i 0] := by
    rw [List.take_add_one, List.getD_eq_getElem?_getD, List.getElem?_eq_getElem h]
    rfl
  rw [e, List.drop_append_of_le_length (by simp; omega), List.flatMap_append]
  simp [List.append_assoc]
theorem encP_len (l : List Int) : ∀ i, (encP l i).length ≤ 5 + 5 * i
  | 0 => by
    have h := num_length (40 * l.getD 0 0 + l.getD 1 0)
    unfold encP
    rw [List.take_zero, List.drop_nil, List.flatMap_nil, List.append_nil]
    omega
  | i + 1 => by
    by_cases h2 : 2 ≤ i
    . by_cases h : i < l.length
      . have := encP_len l i
        have := num_length (l.getD i 0)
        rw [encP_step h2 h, List.length_append]
        omega
      . rw [encP_all (by omega), ← encP_all (l := l) (i := i) (by omega)]
        have := encP_len l i
        omega
    . have : encP l (i + 1) = numO (40 * l.getD 0 0 + l.getD 1 0) := by
        unfold encP
        rw [List.drop_eq_nil_of_le (by simp; omega)]
        simp
      rw [this]
      have := num_length (40 * l.getD 0 0 + l.getD 1 0)
      omega
def joinO : List (List Int) → List Int → List Int
  | [], _ => []
  | x :: r, s => x ++ r.flatMap (fun y => s ++ y)
theorem join_bs (xs : List ByteArray) (sep : ByteArray) : bs ⟨(Lib.join (xs.map (·.data.toList)) sep.data.toList).toArray⟩ = joinO (xs.map bs) (bs sep) := by
  rw [bs_u8s]
  cases xs with
  | nil => rfl
  | cons x r =>
    rw [List.map_cons, Lib.join_cons, List.map_append, List.map_cons, joinO, Lib.joinTail]
    congr 1
    induction r with
    | nil => rfl
    | cons y r ih =>
      simp only [List.map_cons, List.flatten_cons, List.map_append, List.flatMap_cons, ih]
      rfl
theorem idx_some : ∀ {l : List Int} {c : Int}, 0 ≤ idxB l c → c ∉ l.take (idxB l c).toNat ∧ l = l.take (idxB l c).toNat ++ c :: l.drop ((idxB l c).toNat + 1)
  | [], c, h => by simp [idxB] at h
  | a :: l, c, h => by
    rw [idxB] at h ⊢
    by_cases e : a = c
    . rw [if_pos e]
      simp [e]
    . rw [if_neg e] at h ⊢
      by_cases e2 : idxB l c < 0
      . rw [if_pos e2] at h; omega
      . rw [if_neg e2]
        obtain ⟨h1, h2⟩ := idx_some (l := l) (c := c) (by omega)
        rw [show (idxB l c + 1).toNat = (idxB l c).toNat + 1 by omega, List.take_succ_cons, List.drop_succ_cons]
        refine ⟨fun hm => ?_, by rw [List.cons_append, ← h2]⟩
        rcases List.mem_cons.1 hm with hm | hm
        . exact e hm.symm
        . exact h1 hm
end Go.Pl
end
section
namespace Go.Pl
open Go.Vc
set_option linter.unusedVariables false
set_option linter.unusedSimpArgs false
def escD (s : List Int) : List Int := s.flatMap fun c => if c = 44 ∨ c = 92 then [92, c] else [c]
def attrT (a : AttrT) : List Int := labelK a.1 ++ 61 :: escD a.2
def textN (n : List AttrT) : List Int := joinO (n.map attrT) [44]
def TextN (n : List AttrT) : List Int × Int := if mayN n then (textN n, 0) else ([], 120)
def splitE : List Int → List Int → List (List Int)
  | cur, [] => [cur]
  | cur, [c] => if c = 44 then [cur, []] else [cur ++ [c]]
  | cur, c :: d :: l => if c = 92 then splitE (cur ++ [c, d]) l else if c = 44 then cur :: splitE [] (d :: l) else splitE (cur ++ [c]) (d :: l)
def partsE (s : List Int) : List (List Int) := splitE [] s
def plainO : List Int → Option (List Int)
  | [] => some []
  | [c] => if c = 92 then none else some [c]
  | c :: d :: l => if c = 92 then (if d = 92 ∨ d = 44 then (plainO l).map (d :: ·) else none) else (plainO (d :: l)).map (c :: ·)
def PlainD (s : List Int) : List Int × Bool := match plainO s with
  | some v => (v, true)
  | none => ([], false)
def noC : List Int → Bool
  | [] => true
  | [c] => decide (c ≠ 44)
  | c :: d :: l => if c = 92 then noC l else decide (c ≠ 44) && noC (d :: l)
def typK (s : List Int) : Int :=
  if s = [67, 78] then 3 else if s = [83, 78] then 5 else if s = [67] then 6 else if s = [76] then 7 else if s = [83, 84] then 8 else if s = [79] then 10 else if s = [79, 85] then 11 else 0
theorem esc_cons (c : Int) (l : List Int) : escD (c :: l) = (if c = 44 ∨ c = 92 then [92, c] else [c]) ++ escD l := rfl
theorem label_cases (k : Int) : (k = 3 ∧ labelK k = [67, 78]) ∨ (k = 5 ∧ labelK k = [83, 78]) ∨ (k = 6 ∧ labelK k = [67]) ∨ (k = 7 ∧ labelK k = [76]) ∨ (k = 8 ∧ labelK k = [83, 84]) ∨ (k = 10 ∧ labelK k = [79]) ∨ (k = 11 ∧ labelK k = [79, 85]) ∨ labelK k = [] := by
  by_cases h1 : k = 3
  . subst h1; exact .inl ⟨rfl, rfl⟩
  by_cases h2 : k = 5
  . subst h2; exact .inr (.inl ⟨rfl, rfl⟩)
  by_cases h3 : k = 6
  . subst h3; exact .inr (.inr (.inl ⟨rfl, rfl⟩))
  by_cases h4 : k = 7
  . subst h4; exact .inr (.inr (.inr (.inl ⟨rfl, rfl⟩)))
  by_cases h5 : k = 8
  . subst h5; exact .inr (.inr (.inr (.inr (.inl ⟨rfl, rfl⟩))))
  by_cases h6 : k = 10
  . subst h6; exact .inr (.inr (.inr (.inr (.inr (.inl ⟨rfl, rfl⟩)))))
  by_cases h7 : k = 11
  . subst h7; exact .inr (.inr (.inr (.inr (.inr (.inr (.inl ⟨rfl, rfl⟩))))))
  . refine .inr (.inr (.inr (.inr (.inr (.inr (.inr ?_))))))
    rw [labelK, if_neg h1, if_neg h2, if_neg h3, if_neg h4, if_neg h5, if_neg h6, if_neg h7]
theorem typ_label {k : Int} (h : labelK k ≠ []) : typK (labelK k) = k := by
  rcases label_cases k with ⟨rfl, e⟩ | ⟨rfl, e⟩ | ⟨rfl, e⟩ | ⟨rfl, e⟩ | ⟨rfl, e⟩ | ⟨rfl, e⟩ | ⟨rfl, e⟩ | e
  all_goals first | exact absurd e h | (rw [e]; decide)
theorem label_typ {s : List Int} (h : labelK (typK s) ≠ []) : labelK (typK s) = s := by
  unfold typK at h ⊢
  by_cases h1 : s = [67, 78]
  . subst h1; decide
  rw [if_neg h1] at h ⊢
  by_cases h2 : s = [83, 78]
  . subst h2; decide
  rw [if_neg h2] at h ⊢
  by_cases h3 : s = [67]
  . subst h3; decide
  rw [if_neg h3] at h ⊢
  by_cases h4 : s = [76]
  . subst h4; decide
  rw [if_neg h4] at h ⊢
  by_cases h5 : s = [83, 84]
  . subst h5; decide
  rw [if_neg h5] at h ⊢
  by_cases h6 : s = [79]
  . subst h6; decide
  rw [if_neg h6] at h ⊢
  by_cases h7 : s = [79, 85]
  . subst h7; decide
  rw [if_neg h7] at h ⊢
  exact absurd (by decide) h
theorem label_bytes (k : Int) : ∀ b ∈ labelK k, b ≠ 44 ∧ b ≠ 92 ∧ b ≠ 61 := by
  rcases label_cases k with ⟨_, e⟩ | ⟨_, e⟩ | ⟨_, e⟩ | ⟨_, e⟩ | ⟨_, e⟩ | ⟨_, e⟩ | ⟨_, e⟩ | e
  all_goals (rw [e]; decide)
theorem label_len (k : Int) : (labelK k).length ≤ 2 := by
  rcases label_cases k with ⟨_, e⟩ | ⟨_, e⟩ | ⟨_, e⟩ | ⟨_, e⟩ | ⟨_, e⟩ | ⟨_, e⟩ | ⟨_, e⟩ | e
  all_goals (rw [e]; decide)
theorem split_comma (cur t : List Int) : splitE cur (44 :: t) = cur :: splitE [] t := by
  cases t with
  | nil => simp [splitE]
  | cons d l => simp [splitE]
theorem split_one {c : Int} (h1 : c ≠ 44) (h2 : c ≠ 92) (cur t : List Int) : splitE cur (c :: t) = splitE (cur ++ [c]) t := by
  cases t with
  | nil => simp [splitE, h1]
  | cons d l => simp [splitE, h1, h2]
theorem split_two (d : Int) (cur t : List Int) : splitE cur (92 :: d :: t) = splitE (cur ++ [92, d]) t := by simp [splitE]
def Passes (x : List Int) : Prop := ∀ cur t, splitE cur (x ++ t) = splitE (cur ++ x) t
theorem pass_nil : Passes [] := fun cur t => by simp
theorem pass_app {x y : List Int} (hx : Passes x) (hy : Passes y) : Passes (x ++ y) := fun cur t => by
  rw [List.append_assoc, hx, hy, List.append_assoc]
theorem pass_one {c : Int} (h1 : c ≠ 44) (h2 : c ≠ 92) : Passes [c] := fun cur t => split_one h1 h2 cur t
theorem pass_two (d : Int) : Passes [92, d] := fun cur t => split_two d cur t
theorem pass_plain : ∀ {x : List Int}, (∀ b ∈ x, b ≠ 44 ∧ b ≠ 92) → Passes x
  | [], _ => pass_nil
  | c :: l, h => pass_app (x := [c]) (pass_one (h c (by simp)).1 (h c (by simp)).2) (pass_plain fun b hb => h b (List.mem_cons_of_mem _ hb))
theorem pass_esc : ∀ v : List Int, Passes (escD v)
  | [] => pass_nil
  | c :: l => by
    rw [esc_cons]
    refine pass_app ?_ (pass_esc l)
    split
    . exact pass_two c
    . rename_i h
      exact pass_one (fun e => h (.inl e)) (fun e => h (.inr e))
theorem pass_attr (a : AttrT) : Passes (attrT a) := by
  rw [attrT, show labelK a.1 ++ 61 :: escD a.2 = labelK a.1 ++ ([61] ++ escD a.2) from rfl]
  exact pass_app (pass_plain fun b hb => ⟨(label_bytes a.1 b hb).1, (label_bytes a.1 b hb).2.1⟩) (pass_app (pass_one (by decide) (by decide)) (pass_esc a.2))
theorem joinC_two (c : Int) (x y : List Int) (r : List (List Int)) : joinO (x :: y :: r) [c] = x ++ c :: joinO (y :: r) [c] := by simp [joinO]
theorem splitE_join : ∀ (x : List Int) (X : List (List Int)), (∀ y ∈ x :: X, Passes y) → splitE [] (joinO (x :: X) [44]) = x :: X
  | x, [], h => by
    have := h x (by simp) [] []
    simpa [joinO, splitE] using this
  | x, y :: X, h => by
    rw [joinC_two, h x (by simp), split_comma, splitE_join y X (fun z hz => h z (List.mem_cons_of_mem _ hz))]
    rfl
theorem parts_text {m : List AttrT} (h : m ≠ []) : partsE (textN m) = m.map attrT := by
  cases m with
  | nil => exact absurd rfl h
  | cons a r =>
    rw [partsE, textN, List.map_cons]
    refine splitE_join _ _ fun y hy => ?_
    rw [← List.map_cons] at hy
    obtain ⟨b, _, rfl⟩ := List.mem_map.1 hy
    exact pass_attr b
theorem splitE_ne : ∀ (l cur : List Int), splitE cur l ≠ []
  | [], _ => by simp [splitE]
  | [c], cur => by simp only [splitE]; split <;> simp
  | c :: d :: l, cur => by
    simp only [splitE]
    split
    . exact splitE_ne l _
    . split
      . simp
      . exact splitE_ne (d :: l) _
theorem join_cons {X : List (List Int)} (h : X ≠ []) (x : List Int) : joinO (x :: X) [44] = x ++ 44 :: joinO X [44] := by
  cases X with
  | nil => exact absurd rfl h
  | cons y r => exact joinC_two 44 x y r
theorem join_split : ∀ (l cur : List Int), joinO (splitE cur l) [44] = cur ++ l
  | [], cur => by simp [splitE, joinO]
  | [c], cur => by
    simp only [splitE]
    split
    . rename_i h; simp [joinO, h]
    . simp [joinO]
  | c :: d :: l, cur => by
    simp only [splitE]
    split
    . rw [join_split l]; simp
    . split
      . rename_i h
        rw [join_cons (splitE_ne _ _), join_split (d :: l), h]; simp
      . rw [join_split (d :: l)]; simp
theorem join_parts (s : List Int) : joinO (partsE s) [44] = s := by rw [partsE, join_split]; rfl
def Whole (cur : List Int) : Prop := ∀ t, noC (cur ++ t) = noC t
theorem noC_one {c : Int} (h1 : c ≠ 44) (h2 : c ≠ 92) (t : List Int) : noC (c :: t) = noC t := by
  cases t with
  | nil => simp [noC, h1]
  | cons d l => simp [noC, h1, h2]
theorem whole_one {cur : List Int} {c : Int} (h : Whole cur) (h1 : c ≠ 44) (h2 : c ≠ 92) : Whole (cur ++ [c]) := fun t => by
  rw [List.append_assoc, h]; exact noC_one h1 h2 t
theorem whole_two {cur : List Int} (h : Whole cur) (d : Int) : Whole (cur ++ [92, d]) := fun t => by
  rw [List.append_assoc, h]; simp [noC]
theorem split_noC : ∀ (l cur : List Int), Whole cur → ∀ p ∈ splitE cur l, noC p = true
  | [], cur, h, p, hp => by
    rw [splitE, List.mem_singleton] at hp
    subst hp
    have := h []
    rwa [List.append_nil] at this
  | [c], cur, h, p, hp => by
    rw [splitE] at hp
    split at hp
    . rcases List.mem_cons.1 hp with rfl | hp
      . have := h []
        rwa [List.append_nil] at this
      . rw [List.mem_singleton.1 hp]; rfl
    . rename_i hc
      rw [List.mem_singleton.1 hp, h]
      simp [noC, hc]
  | c :: d :: l, cur, h, p, hp => by
    rw [splitE] at hp
    split at hp
    . rename_i hc
      subst hc
      exact split_noC l _ (whole_two h d) p hp
    . split at hp
      . rcases List.mem_cons.1 hp with rfl | hp
        . have := h []
          rwa [List.append_nil] at this
        . exact split_noC (d :: l) [] (fun t => rfl) p hp
      . rename_i h2 h1
        exact split_noC (d :: l) _ (whole_one h h1 h2) p hp
theorem parts_noC {s p : List Int} (h : p ∈ partsE s) : noC p = true := split_noC s [] (fun _ => rfl) p h
theorem plain_one {c : Int} (h : c ≠ 92) (t : List Int) : plainO (c :: t) = (plainO t).map (c :: ·) := by
  cases t with
  | nil => simp [plainO, h]
  | cons d l => simp [plainO, h]
theorem plain_esc : ∀ v : List Int, plainO (escD v) = some v
  | [] => rfl
  | c :: l => by
    rw [esc_cons]
    split
    . rename_i h
      show plainO (92 :: c :: escD l) = _
      rw [plainO, if_pos rfl, if_pos (h.symm), plain_esc l]
      rfl
    . rename_i h
      show plainO (c :: escD l) = _
      rw [plain_one (fun e => h (.inr e)), plain_esc l]
      rfl
theorem esc_plain : ∀ (r v : List Int), plainO r = some v → noC r = true → escD v = r
  | [], v, h, _ => by simp [plainO] at h; subst h; rfl
  | [c], v, h, hn => by
    simp only [plainO] at h
    split at h
    . cases h
    . rename_i h2
      cases h
      simp only [noC, decide_eq_true_eq] at hn
      rw [esc_cons, if_neg (fun e => e.elim hn h2)]
      rfl
  | c :: d :: l, v, h, hn => by
    simp only [plainO] at h
    split at h
    . rename_i h2
      subst h2
      split at h
      . rename_i h3
        simp only [noC, if_true] at hn
        cases hv : plainO l with
        | none => rw [hv] at h; cases h
        | some u =>
          rw [hv] at h
          cases h
          rw [esc_cons, if_pos h3.symm, esc_plain l u hv hn]
          rfl
      . cases h
    . rename_i h2
      simp only [noC, if_neg h2, Bool.and_eq_true, decide_eq_true_eq] at hn
      cases hv : plainO (d :: l) with
      | none => rw [hv] at h; cases h
      | some u =>
        rw [hv] at h
        cases h
        rw [esc_cons, if_neg (fun e => e.elim hn.1 h2), esc_plain (d :: l) u hv hn.2]
        rfl
theorem cut_app : ∀ {w r : List Int}, (61 : Int) ∉ w → cutD 61 (w ++ 61 :: r) = (w, r, true)
  | [], r, _ => by simp [cutD]
  | c :: w, r, h => by
    have hc : c ≠ 61 := fun e => h (by simp [e])
    rw [List.cons_append, cutD, if_neg hc, cut_app (fun hm => h (List.mem_cons_of_mem _ hm))]
theorem cut_back : ∀ {p w r : List Int}, cutD 61 p = (w, r, true) → p = w ++ 61 :: r
  | [], w, r, h => by simp [cutD] at h
  | c :: p, w, r, h => by
    rw [cutD] at h
    split at h
    . rename_i hc
      simp only [Prod.mk.injEq] at h
      obtain ⟨rfl, rfl, _⟩ := h
      rw [hc]; rfl
    . simp only [Prod.mk.injEq] at h
      obtain ⟨rfl, rfl, h3⟩ := h
      rw [List.cons_append, ← cut_back (p := p) (w := (cutD 61 p).1) (r := (cutD 61 p).2.1) (Prod.ext rfl (Prod.ext rfl h3))]
def pA (p : List Int) : Option AttrT := if (cutD 61 p).2.2 = true ∧ (PlainD (cutD 61 p).2.1).2 = true ∧ mayA (typK (cutD 61 p).1, (PlainD (cutD 61 p).2.1).1) = true then some (typK (cutD 61 p).1, (PlainD (cutD 61 p).2.1).1) else none
theorem attr_cut (a : AttrT) : cutD 61 (attrT a) = (labelK a.1, escD a.2, true) := cut_app fun h => (label_bytes a.1 61 h).2.2 rfl
theorem mayA_label {a : AttrT} (h : mayA a = true) : labelK a.1 ≠ [] := by
  simp only [mayA, Bool.and_eq_true, decide_eq_true_eq] at h
  exact h.1.1
theorem mayA_len {a : AttrT} (h : mayA a = true) : a.2.length ≤ 64 := by
  simp only [mayA, Bool.and_eq_true, decide_eq_true_eq] at h
  exact h.1.2.2
theorem pA_attr {a : AttrT} (h : mayA a = true) : pA (attrT a) = some a := by
  have e : PlainD (escD a.2) = (a.2, true) := by rw [PlainD, plain_esc]
  rw [pA, attr_cut]
  simp only [e]
  rw [typ_label (mayA_label h), if_pos ⟨by trivial, by trivial, h⟩]
theorem attr_pA {p : List Int} {a : AttrT} (hn : noC p = true) (h : pA p = some a) : attrT a = p ∧ mayA a = true := by
  unfold pA at h
  split at h
  . rename_i hc
    obtain ⟨h1, h2, h3⟩ := hc
    cases h
    refine ⟨?_, h3⟩
    have e : p = (cutD 61 p).1 ++ 61 :: (cutD 61 p).2.1 := cut_back (Prod.ext rfl (Prod.ext rfl h1))
    have hl := label_typ (mayA_label h3)
    rw [attrT, hl]
    generalize cutD 61 p = q at *
    obtain ⟨w, r, f⟩ := q
    simp only at *
    have hw : ∀ b ∈ w, b ≠ 44 ∧ b ≠ 92 := fun b hb => by
      rw [← hl] at hb
      exact ⟨(label_bytes _ b hb).1, (label_bytes _ b hb).2.1⟩
    have hr : noC r = true := by
      rw [e] at hn
      have key : ∀ w : List Int, (∀ b ∈ w, b ≠ 44 ∧ b ≠ 92) → noC (w ++ 61 :: r) = noC r := fun w => by
        induction w with
        | nil => intro _; exact noC_one (by decide) (by decide) r
        | cons c w ih =>
          intro hh
          rw [List.cons_append, noC_one (hh c (by simp)).1 (hh c (by simp)).2]
          exact ih fun b hb => hh b (List.mem_cons_of_mem _ hb)
      rwa [key w hw] at hn
    rw [e]
    congr 2
    unfold PlainD at h2 ⊢
    cases hp : plainO r with
    | none => rw [hp] at h2; cases h2
    | some v => simp only; exact esc_plain r v hp hr
  . cases h
def parseN (s : List Int) (l : List AttrT) (e : Int) : Prop := (e = 0 ∧ mayN l = true ∧ textN l = s) ∨ (e = 120 ∧ l = [] ∧ ∀ m, mayN m = true → textN m ≠ s)
noncomputable def parN (s : List Int) (l : List AttrT) (e : Int) : Bool := @decide (parseN s l e) (Classical.propDecidable _)
theorem parN_iff {s : List Int} {l : List AttrT} {e : Int} : parN s l e = true ↔ parseN s l e := by unfold parN; exact @decide_eq_true_iff _ (Classical.propDecidable _)
theorem parN_bad {s : List Int} (h : ∀ m, mayN m = true → textN m = s → False) : parN s [] 120 = true := parN_iff.2 (.inr ⟨rfl, rfl, fun m hm ht => h m hm ht⟩)
theorem mayN_args {m : List AttrT} (h : mayN m = true) : m.length ≤ 16 ∧ ∀ a ∈ m, mayA a = true := by
  simp only [mayN, Bool.and_eq_true, decide_eq_true_eq, List.all_eq_true] at h
  exact h
theorem mayN_of {m : List AttrT} (h1 : m.length ≤ 16) (h2 : ∀ a ∈ m, mayA a = true) : mayN m = true := by
  simp only [mayN, Bool.and_eq_true, decide_eq_true_eq, List.all_eq_true]
  exact ⟨h1, h2⟩
theorem parts_of {m : List AttrT} {s : List Int} (hm : mayN m = true) (ht : textN m = s) (hs : s ≠ []) : partsE s = m.map attrT := by
  rw [← ht]
  refine parts_text fun e => hs ?_
  rw [← ht, e]; rfl
theorem attr_ne (a : AttrT) : attrT a ≠ [] := by rw [attrT]; simp
theorem textN_ne {m : List AttrT} (h : textN m = []) : m = [] := by
  cases m with
  | nil => rfl
  | cons a r =>
    rw [textN, List.map_cons, joinO] at h
    exact absurd (List.append_eq_nil_iff.1 h).1 (attr_ne a)
theorem read_ok {s : List Int} {l : List AttrT} (hs : s ≠ []) (h1 : l.length ≤ 16) (h : partsE s = l.map attrT) (ha : ∀ a ∈ l, mayA a = true) : parN s l 0 = true :=
  parN_iff.2 (.inl ⟨rfl, mayN_of h1 ha, by rw [textN, ← h, join_parts]⟩)
theorem text_inj {l m : List AttrT} (hl : mayN l = true) (hm : mayN m = true) (h : textN l = textN m) : l = m := by
  by_cases hn : textN m = []
  . rw [textN_ne hn, textN_ne (h.trans hn)]
  . have a := parts_of hl h hn
    have b := parts_of hm rfl hn
    have c := congrArg (List.map pA) (a.symm.trans b)
    have key : ∀ x : List AttrT, (∀ a ∈ x, mayA a = true) → (x.map attrT).map pA = x.map some := fun x hx => by
      rw [List.map_map]; exact List.map_congr_left fun a ha => pA_attr (hx a ha)
    rw [key l (mayN_args hl).2, key m (mayN_args hm).2] at c
    have inj : ∀ x y : List AttrT, x.map some = y.map some → x = y := fun x => by
      induction x with
      | nil => intro y h; cases y with
        | nil => rfl
        | cons _ _ => cases h
      | cons a x ih => intro y h; cases y with
        | nil => cases h
        | cons b y =>
          rw [List.map_cons, List.map_cons, List.cons.injEq] at h
          rw [Option.some.inj h.1, ih y h.2]
    exact inj l m c
theorem parN_det {s : List Int} {l l' : List AttrT} {e e' : Int} (h : parN s l e = true) (h' : parN s l' e' = true) : l = l' ∧ e = e' := by
  rcases parN_iff.1 h with ⟨rfl, h1, h2⟩ | ⟨rfl, rfl, h1⟩ <;> rcases parN_iff.1 h' with ⟨rfl, h3, h4⟩ | ⟨rfl, rfl, h3⟩
  . exact ⟨text_inj h1 h3 (h2.trans h4.symm), rfl⟩
  . exact absurd h2 (h3 _ h1)
  . exact absurd h4 (h1 _ h3)
  . exact ⟨rfl, rfl⟩
theorem parN_of {m l : List AttrT} {e : Int} (hm : mayN m = true) (h : parN (textN m) l e = true) : l = m ∧ e = 0 := parN_det h (parN_iff.2 (.inl ⟨rfl, hm, rfl⟩))
def pcs (s : List Int) (f i : Nat) : List (List Int) := splitE ((s.take i).drop f) (s.drop i)
theorem take_snocD {s : List Int} {f i : Nat} (hf : f ≤ i) (hi : i < s.length) : (s.take (i + 1)).drop f = (s.take i).drop f ++ [s.getD i 0] := by
  rw [take_snoc s i hi, List.drop_append_of_le_length (by rw [List.length_take]; omega)]
theorem pcs_one {s : List Int} {f i : Nat} (hf : f ≤ i) (hi : i < s.length) (h1 : s.getD i 0 ≠ 44) (h2 : s.getD i 0 ≠ 92) : pcs s f i = pcs s f (i + 1) := by
  unfold pcs
  rw [drop_cons s i hi, split_one h1 h2, take_snocD hf hi]
theorem pcs_comma {s : List Int} {f i : Nat} (hi : i < s.length) (h1 : s.getD i 0 = 44) : pcs s f i = (s.take i).drop f :: pcs s (i + 1) (i + 1) := by
  unfold pcs
  rw [drop_cons s i hi, h1, split_comma, List.drop_of_length_le (l := s.take (i + 1)) (by rw [List.length_take]; omega)]
theorem pcs_end {s : List Int} {f i : Nat} (hi : s.length ≤ i) : pcs s f i = [s.drop f] := by
  unfold pcs
  rw [List.drop_of_length_le hi, List.take_of_length_le hi, splitE]
theorem pcs_two {s : List Int} {f i : Nat} (hf : f ≤ i) (hi : i < s.length) (h1 : s.getD i 0 = 92) : pcs s f i = pcs s f (i + 2) := by
  by_cases h : i + 1 < s.length
  . unfold pcs
    rw [drop_cons s i hi, drop_cons s (i + 1) h, h1, split_two, show i + 2 = i + 1 + 1 from rfl, take_snocD (by omega) h, take_snocD hf hi, h1, List.append_assoc]
    rfl
  . rw [pcs_end (by omega : s.length ≤ i + 2)]
    unfold pcs
    rw [drop_cons s i hi, List.drop_of_length_le (l := s) (i := i + 1) (by omega), h1, splitE, if_neg (by decide)]
    rw [show s.drop f = (s.take (i + 1)).drop f by rw [List.take_of_length_le (by omega)], take_snocD hf hi, h1]
theorem plainD_none {s : List Int} (h : plainO s = none) : PlainD s = ([], false) := by rw [PlainD, h]
theorem plainD_some {s v : List Int} (h : plainO s = some v) : PlainD s = (v, true) := by rw [PlainD, h]
theorem typ_range {s : List Int} (h : typK s ≠ 0) : 0 ≤ typK s ∧ typK s < 12 ∧ labelK (typK s) = s ∧ s ≠ [] := by
  unfold typK at h ⊢
  by_cases h1 : s = [67, 78]
  . subst h1; decide
  rw [if_neg h1] at h ⊢
  by_cases h2 : s = [83, 78]
  . subst h2; decide
  rw [if_neg h2] at h ⊢
  by_cases h3 : s = [67]
  . subst h3; decide
  rw [if_neg h3] at h ⊢
  by_cases h4 : s = [76]
  . subst h4; decide
  rw [if_neg h4] at h ⊢
  by_cases h5 : s = [83, 84]
  . subst h5; decide
  rw [if_neg h5] at h ⊢
  by_cases h6 : s = [79]
  . subst h6; decide
  rw [if_neg h6] at h ⊢
  by_cases h7 : s = [79, 85]
  . subst h7; decide
  rw [if_neg h7] at h
  exact absurd rfl h
theorem esc_len (v : List Int) : (escD v).length ≤ 2 * v.length := by
  induction v with
  | nil => simp [escD]
  | cons c l ih =>
    rw [esc_cons, List.length_append, List.length_cons]
    split <;> simp only [List.length_cons, List.length_nil] <;> omega
theorem attr_len {a : AttrT} (h : mayA a = true) : (attrT a).length ≤ 131 := by
  have h1 := label_len a.1
  have h2 := esc_len a.2
  have h3 := mayA_len h
  rw [attrT, List.length_append, List.length_cons]
  omega
def txtN (l : List AttrT) (i : Nat) : List Int := joinO ((l.take i).map attrT) [44]
theorem txtN_zero (l : List AttrT) : txtN l 0 = [] := rfl
theorem txtN_all {l : List AttrT} {i : Nat} (h : l.length ≤ i) : txtN l i = textN l := by rw [txtN, List.take_of_length_le h, textN]
theorem join_snoc : ∀ (X : List (List Int)) (x : List Int), joinO (X ++ [x]) [44] = joinO X [44] ++ (if X = [] then x else 44 :: x)
  | [], x => by simp [joinO]
  | [y], x => by simp [joinO]
  | y :: z :: X, x => by
    rw [List.cons_append, List.cons_append, joinC_two, ← List.cons_append, join_snoc (z :: X) x, joinC_two]
    simp
theorem txtN_step {l : List AttrT} {i : Nat} (h : i < l.length) : txtN l (i + 1) = txtN l i ++ ((if i = 0 then [] else [44]) ++ attrT (l.getD i adft)) := by
  unfold txtN
  rw [take_snocA adft l i h, List.map_append, List.map_singleton, join_snoc]
  by_cases h0 : i = 0
  . subst h0; simp
  . rw [if_neg h0, if_neg (fun e => by
      have := congrArg List.length e
      rw [List.length_map, List.length_take, List.length_nil] at this
      omega)]
    rfl
theorem txtN_len {l : List AttrT} (h : ∀ a ∈ l, mayA a = true) : ∀ i, i ≤ l.length → (txtN l i).length ≤ 132 * i
  | 0, _ => by rw [txtN_zero]; simp
  | i + 1, hi => by
    have := txtN_len h i (by omega)
    have := attr_len (h _ (mem_getD adft l i (by omega)))
    rw [txtN_step (by omega), List.length_append, List.length_append]
    split <;> simp only [List.length_cons, List.length_nil] <;> omega
theorem piece_bad {s p : List Int} {acc : List AttrT} {rest : List (List Int)} (hs : s ≠ []) (h : partsE s = acc.map attrT ++ p :: rest) (hb : pA p = none ∨ acc.length = 16) : parN s [] 120 = true :=
  parN_bad fun m hm ht => by
    have e := (parts_of hm ht hs).symm.trans h
    obtain ⟨h16, hA⟩ := mayN_args hm
    rcases hb with hb | hb
    . have hmem : p ∈ m.map attrT := by rw [e]; simp
      obtain ⟨a, ha, rfl⟩ := List.mem_map.1 hmem
      rw [pA_attr (hA a ha)] at hb
      cases hb
    . have := congrArg List.length e
      rw [List.length_append, List.length_cons, List.length_map, List.length_map] at this
      omega
theorem pA_none {p : List Int} (h : (cutD 61 p).2.2 = false ∨ (PlainD (cutD 61 p).2.1).2 = false ∨ mayA (typK (cutD 61 p).1, (PlainD (cutD 61 p).2.1).1) = false) : pA p = none := by
  rw [pA, if_neg]
  rintro ⟨h1, h2, h3⟩
  rcases h with h | h | h
  . rw [h1] at h; cases h
  . rw [h2] at h; cases h
  . rw [h3] at h; cases h
theorem pA_some {p : List Int} (h1 : (cutD 61 p).2.2 = true) (h2 : (PlainD (cutD 61 p).2.1).2 = true) (h3 : mayA (typK (cutD 61 p).1, (PlainD (cutD 61 p).2.1).1) = true) : pA p = some (typK (cutD 61 p).1, (PlainD (cutD 61 p).2.1).1) := by
  rw [pA, if_pos ⟨h1, h2, h3⟩]
theorem cut_len (p : List Int) : (cutD 61 p).2.1.length ≤ p.length ∧ (cutD 61 p).1.length ≤ p.length := by
  induction p with
  | nil => simp [cutD]
  | cons c p ih =>
    rw [cutD]
    split
    . simp
    . simp only [List.length_cons]; omega
theorem piece_len {s : List Int} {f i : Nat} : ((s.take i).drop f).length ≤ s.length := by simp; omega
end Go.Pl
end
