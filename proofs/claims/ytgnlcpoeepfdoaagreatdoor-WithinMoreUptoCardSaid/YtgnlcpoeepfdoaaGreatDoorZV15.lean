import Derived.Test.YtgnlcpoeepfdoaaGreatDoorZV14
import Derived.Test.YtgnlcpoeepfdoaaGreatDoorZV13
set_option linter.unusedVariables false
set_option linter.unusedSimpArgs false
namespace Go.Pl
open Go.Vc
set_option linter.unusedVariables false
set_option linter.unusedSimpArgs false
def nbit (s : List Int) (i : Nat) : Bool := decide (s.getD (i / 8) 0 / 2 ^ (7 - i % 8) % 2 = 1)
def okM (m b : List Int) (i : Nat) : Bool := if nbit m i then !(decide (0 < i) && !nbit m (i - 1)) else !nbit b i
def maskD (s : List Int) : Bool := decide (s.length = 8 ∨ s.length = 32) && (List.range (8 * (s.length / 2))).all (okM (s.drop (s.length / 2)) s)
def mayT (k : Int) (b : List Int) : Bool :=
  if k = 1 then (if hasP [46] b then dnsD (b.drop 1) else emailD b || dnsD b) else if k = 2 then dnsD b else if k = 4 then namedD b else if k = 7 then maskD b else false
def ipT (b s : List Int) : Bool := decide (s.length = b.length / 2) && (List.range (8 * (b.length / 2))).all fun i => !nbit (b.drop (b.length / 2)) i || decide (nbit s i = nbit b i)
def mailT (b s : List Int) : Bool :=
  if (cutD 64 b).2.2 then decide ((cutD 64 b).1 = (cutD 64 s).1) && matchD (cutD 64 b).2.1 (cutD 64 s).2.1
  else if hasP [46] b then belowD (cutD 64 s).2.1 (b.drop 1) && !belowD (b.drop 1) (cutD 64 s).2.1 else matchD b (cutD 64 s).2.1
def liesT (k : Int) (b s : List Int) : Bool :=
  if k = 1 then mailT b s else if k = 2 then belowD s b else if k = 4 then beginsD (guessD s) (guessD b) else ipT b s
def bareT (s : List Int) : List Int := if hasP [42, 46] s then s.drop 2 else s
def allT (t g : Int × List Int) : Bool := decide (t.1 = g.1) && (mayT t.1 t.2 && (mayG g.1 g.2 && liesT t.1 t.2 (if g.1 = 2 then bareT g.2 else g.2)))
def someT (t g : Int × List Int) : Bool := allT t g || (decide (t.1 = g.1) && (mayT t.1 t.2 && (mayG g.1 g.2 && (decide (g.1 = 2) && matchD g.2 t.2))))
def firstT (p : Int × List Int → Bool) : List (Int × List Int) → Nat → Int
  | [], _ => -1
  | t :: l, i => if p t then (i : Int) else firstT p l (i + 1)
def checkT (p x : List (Int × List Int)) (g : Int × List Int) : Int × Int :=
  if mayG g.1 g.2 = false then (0, 130)
  else if 0 ≤ firstT (fun t => !mayT t.1 t.2) p 0 then (firstT (fun t => !mayT t.1 t.2) p 0, 140)
  else if 0 ≤ firstT (fun t => !mayT t.1 t.2) x 0 then (firstT (fun t => !mayT t.1 t.2) x 0 + p.length, 140)
  else if (p.any fun t => decide (t.1 = g.1)) = true ∧ (p.any fun t => allT t g) = false then (0, 141)
  else if 0 ≤ firstT (fun t => someT t g) x 0 then (firstT (fun t => someT t g) x 0, 142) else (0, 0)
theorem range_step (p : Nat → Bool) (n : Nat) : (List.range (n + 1)).all p = ((List.range n).all p && p n) := by rw [List.range_succ, List.all_append]; simp
theorem range_bad {p : Nat → Bool} {i n : Nat} (h : i < n) (hp : p i = false) : (List.range n).all p = false := by
  cases e : (List.range n).all p
  . rfl
  . have := List.all_eq_true.1 e i (List.mem_range.2 h)
    rw [hp] at this
    cases this
theorem mail_dot {b : List Int} (h : hasP [46] b = true) : emailD b = false := by
  obtain ⟨r, rfl⟩ := hasP_iff.1 h
  unfold emailD
  have e : cutD 64 ([46] ++ r) = (46 :: (cutD 64 r).1, (cutD 64 r).2.1, (cutD 64 r).2.2) := by
    rw [List.cons_append, List.nil_append, cutD]
    simp
  rw [e]
  have : localD (46 :: (cutD 64 r).1) = false := by
    unfold localD
    simp
  simp only [this, Bool.false_and, Bool.and_false]
theorem below_dns {a b : List Int} (h : belowD a b = true) : dnsD a = true ∧ dnsD b = true := by
  unfold belowD at h
  simp only [Bool.and_eq_true] at h
  exact ⟨h.1, h.2.1⟩
theorem below_strict {a r : List Int} (h : belowD a r = true) : matchD r a = belowD r a := by
  have e := below_both r a
  rw [h, Bool.and_true, (below_dns h).2, Bool.and_true] at e
  exact e.symm
theorem nbit_test {s : List Int} {j r : Nat} (h : 0 ≤ s.getD j 0) (hr : r < 8) : nbit s (8 * j + r) = (s.getD j 0).toNat.testBit (7 - r) := by
  unfold nbit
  rw [show (8 * j + r) / 8 = j by omega, show (8 * j + r) % 8 = r by omega, Nat.testBit_eq_decide_div_mod_eq]
  generalize s.getD j 0 = a at h
  obtain ⟨n, rfl⟩ : ∃ n : Nat, a = n := ⟨a.toNat, by omega⟩
  rw [Int.toNat_natCast]
  have : ((n : Int) / 2 ^ (7 - r) % 2 = 1) ↔ (n / 2 ^ (7 - r) % 2 = 1) := by
    rw [← Int.natCast_inj]
    simp
  exact decide_eq_decide.2 this
def ipB (b s : List Int) : Bool := decide (s.length = b.length / 2) && (List.range (b.length / 2)).all fun j => decide ((s.getD j 0).toNat &&& (b.getD (b.length / 2 + j) 0).toNat = (b.getD j 0).toNat)
theorem bys_gd {l : List Int} (h : Bys l) (i : Nat) : 0 ≤ l.getD i 0 ∧ l.getD i 0 ≤ 255 := by
  by_cases hi : i < l.length
  . rw [List.getD_eq_getElem?_getD, List.getElem?_eq_getElem hi]
    exact h _ (List.getElem_mem hi)
  . rw [List.getD_eq_getElem?_getD, List.getElem?_eq_none (by omega)]
    decide
theorem ip_eq {b s : List Int} (hb : Bys b) (hs : Bys s) (hm : maskD b = true) : ipB b s = ipT b s := by
  unfold ipB ipT
  congr 1
  unfold maskD at hm
  simp only [Bool.and_eq_true, List.all_eq_true, List.mem_range] at hm
  have hm := hm.2
  generalize hn : b.length / 2 = n at *
  have hg : ∀ j, (b.drop n).getD j 0 = b.getD (n + j) 0 := fun j => by rw [List.getD_eq_getElem?_getD, List.getD_eq_getElem?_getD, List.getElem?_drop]
  rw [Bool.eq_iff_iff]
  simp only [List.all_eq_true, List.mem_range, decide_eq_true_eq, Bool.or_eq_true, Bool.not_eq_true']
  have bs1 : ∀ j, 0 ≤ s.getD j 0 := fun j => (bys_gd hs j).1
  have bb1 : ∀ j, 0 ≤ b.getD j 0 := fun j => (bys_gd hb j).1
  have bm1 : ∀ j, 0 ≤ (b.drop n).getD j 0 := fun j => by rw [hg]; exact bb1 _
  constructor
  . intro h i hi
    have h1 := h (i / 8) (by omega)
    have e : i = 8 * (i / 8) + i % 8 := by omega
    have hr : i % 8 < 8 := by omega
    have h2 := congrArg (fun x => Nat.testBit x (7 - i % 8)) h1
    simp only [Nat.testBit_and] at h2
    rw [← hg, ← nbit_test (bs1 _) hr, ← nbit_test (bm1 _) hr, ← nbit_test (bb1 _) hr, ← e] at h2
    cases hq : nbit (List.drop n b) i
    . exact .inl rfl
    . right
      rw [hq] at h2
      simpa using h2
  . intro h j hj
    apply Nat.eq_of_testBit_eq
    intro k
    rw [Nat.testBit_and]
    by_cases hk : k < 8
    . have hr : 7 - k < 8 := by omega
      have e1 := nbit_test (bs1 j) hr
      have e2 := nbit_test (bm1 j) hr
      have e3 := nbit_test (bb1 j) hr
      rw [show 7 - (7 - k) = k by omega] at e1 e2 e3
      rw [hg] at e2
      rw [← e1, ← e2, ← e3]
      have h1 := h (8 * j + (7 - k)) (by omega)
      have h2 := hm (8 * j + (7 - k)) (by omega)
      unfold okM at h2
      cases hq : nbit (List.drop n b) (8 * j + (7 - k))
      . rw [hq] at h2
        simp only [Bool.false_eq_true, if_false, Bool.not_eq_true'] at h2
        rw [h2, Bool.and_false]
      . rw [hq] at h1
        rcases h1 with h1 | h1
        . cases h1
        . rw [h1, Bool.and_true]
    . have big : ∀ x : Int, 0 ≤ x → x ≤ 255 → x.toNat.testBit k = false := fun x h0 h1 => Nat.testBit_lt_two_pow (Nat.lt_of_lt_of_le (show x.toNat < 2 ^ 8 by omega) (Nat.pow_le_pow_right (by decide) (by omega)))
      rw [big _ (bs1 j) (bys_gd hs j).2, big _ (bb1 j) (bys_gd hb j).2, Bool.false_and]
theorem all_some {t g : Int × List Int} (h : allT t g = true) : someT t g = true := by unfold someT; rw [h]; rfl
end Go.Pl
