/- Texts of a verified walk, led together: Within2A, Within2W, R14A, R14W, R14bA, R14bW. -/
import Derived.Test.YtiofbnlbfmbodaaGreatDoorZW09
import Derived.Test.YtiofbnlbfmbodaaGreatDoorZV16
set_option linter.unusedVariables false
set_option linter.unusedSimpArgs false
section
namespace Go.Proofs.YtiofbnlbfmbodaaGreatDoor
open Go Go.Vc Go.Pl Go.Proofs
def c_stringslite_TrimPrefix : Con := { args := [.dat .str, .dat .str], res := [.dat .str], pre := fun _ => True, post := fun x y => y.1 = if hasP x.2.1 x.1 then x.1.drop x.2.1.length else x.1 }
def c_strings_TrimPrefix : Con := { args := [.dat .str, .dat .str], res := [.dat .str], pre := fun _ => True, post := fun x y => y.1 = if hasP x.2.1 x.1 then x.1.drop x.2.1.length else x.1 }
def c_within_mask : Con := { args := [.dat .str], res := [.dat .bool], pre := fun x => x.1.length ≤ 1000000000, post := fun x y => y.1 = maskD x.1 }
def c_within_May : Con := { args := [.dat GT], res := [.dat .bool], pre := fun x => x.1.2.length ≤ 100000000, post := fun x y => y.1 = mayT x.1.1 x.1.2 }
end Go.Proofs.YtiofbnlbfmbodaaGreatDoor
end
section
namespace Go.Proofs.YtiofbnlbfmbodaaGreatDoor
open Go Go.Vc Go.Pl Go.Proofs
set_option linter.unusedVariables false
set_option linter.unusedSimpArgs false
set_option maxRecDepth 20000
theorem bit_val {a : Int} (ha : 0 ≤ a ∧ a ≤ 255) {r : Nat} (hr : r ≤ 7) : IntKind.u8.wrap ↑(BitVec.ofInt 8 (a.fdiv (2 ^ min r 8)) &&& BitVec.ofInt 8 1).toNat = a / 2 ^ r % 2 := by
  have key : ∀ a : Fin 256, ∀ r : Fin 8, IntKind.u8.wrap ↑(BitVec.ofInt 8 ((a.val : Int).fdiv (2 ^ min r.val 8)) &&& BitVec.ofInt 8 1).toNat = (a.val : Int) / 2 ^ r.val % 2 := by decide +kernel
  have := key ⟨a.toNat, by omega⟩ ⟨r, by omega⟩
  simpa [Int.toNat_of_nonneg ha.1] using this
abbrev q520 (p0 : q5) := (Int.tdiv (lnZ p0.1) (2 : Int))
abbrev q517 (p0 : q5) (p1 : Int × Bool × Bool × Unit) := (BitVec.toNat (BitVec.ofInt (8 : Nat) (Int.fdiv (List.getD p0.1 (Int.toNat (wrZ (wrZ (q520 p0) + wrZ (Int.tdiv p1.1 (8 : Int))))) (0
  : Int)) ((2 : Int) ^ min (Int.toNat (wrZ ((7 : Int) - Int.tmod p1.1 (8 : Int)))) (8 : Nat))) &&& BitVec.ofInt (8 : Nat) (1 : Int)))
abbrev q515 (p0 : q5) (p1 : Int × Bool × Bool × Unit) := (↑(q517 p0 p1) : Int)
abbrev q504 (p0 : q5) (p1 : Int × Bool × Bool × Unit) := (bif decide (IntKind.wrap IntKind.u8 (q515 p0 p1) = (1 : Int)) then p1.2.1 else false)
abbrev q470 (p0 : q5) (p1 : Int × Bool × Bool × Unit) := ((q504 p0 p1) == false && (q504 p0 p1) == false)
abbrev q505 (p0 : q5) (p1 : Int × Bool × Bool × Unit) := (IntKind.wrap IntKind.u8 (q515 p0 p1) = (1 : Int))
abbrev q471 (p0 : q5) (p1 : Int × Bool × Bool × Unit) := (!decide (q505 p0 p1))
abbrev q469 (p0 : q5) (p1 : Int × Bool × Bool × Unit) := ((q504 p0 p1) == false && (q504 p0 p1) == false && (!decide (q505 p0 p1)) == true)
abbrev q323 (p0 : q5) (p1 : Int × Bool × Bool × Unit) := ((q470 p0 p1) = true -> (q471 p0 p1) = true -> (q469 p0 p1) = true /\ (8 : Int) ≠ q379 /\ True)
abbrev q324 (p0 : q5) (p1 : Int × Bool × Bool × Unit) := ((q470 p0 p1) = true -> (q471 p0 p1) = true -> (q469 p0 p1) = true /\ True)
abbrev q325 (p0 : q5) (p1 : Int × Bool × Bool × Unit) := ((q470 p0 p1) = true -> (q471 p0 p1) = true -> True)
abbrev q472 (p0 : q5) (p1 : Int × Bool × Bool × Unit) := (bif decide (q505 p0 p1) then p1.2.1 else false)
abbrev q326 (p0 : q5) (p1 : Int × Bool × Bool × Unit) := ((q472 p0 p1) == false && (q472 p0 p1) == false && (q471 p0 p1) == true)
abbrev q499 (p0 : q5) (p1 : Int × Bool × Bool × Unit) := (↑(q517 p0 p1) : Int)
abbrev q473 (p0 : q5) (p1 : Int × Bool × Bool × Unit) := (IntKind.wrap IntKind.u8 (q499 p0 p1) = (1 : Int))
abbrev q327 (p0 : q5) (p1 : Int × Bool × Bool × Unit) := (bif bif decide (q473 p0 p1) then p1.2.1 else false then true else bif !decide (q473 p0 p1) then decide (IntKind.wrap IntKind.u8
  (↑(BitVec.toNat (BitVec.ofInt q480 (Int.fdiv (List.getD p0.1 (Int.toNat (wrZ (Int.tdiv p1.1 (8 : Int)))) q379) ((2 : Int) ^ min (Int.toNat (wrZ ((7 : Int) - Int.tmod p1.1 (8 : Int)))) (8 :
  Nat))) &&& BitVec.ofInt q480 q417)) : Int) = q417) else false)
abbrev q328 (p0 : q5) (p1 : Int × Bool × Bool × Unit) := ((q472 p0 p1) == false && (q472 p0 p1) == false)
abbrev q329 (p0 : q5) (p1 : Int × Bool × Bool × Unit) := ((q472 p0 p1) = false -> True)
abbrev q330 (p0 : q5) (p1 : Int × Bool × Bool × Unit) := ((q472 p0 p1) == false)
abbrev q331 (p0 : q5) (p1 : Int × Bool × Bool × Unit) := (bif decide (q473 p0 p1) then p1.2.1 else false)
abbrev q332 (p0 : q5) (p1 : Int × Bool × Bool × Unit) := (!decide (q473 p0 p1))
abbrev q333 (p0 : q5) (p1 : Int × Bool × Bool × Unit) := (IntKind.wrap IntKind.u8 (q499 p0 p1) = q417)
abbrev q334 (p0 : q5) := ((8 : Int) * wrZ (q520 p0))
abbrev q335 (p0 : q13) := (decide (p0.1.1 = q428) = true -> List.length p0.1.2 <= (1000000000 : Nat) /\ (∀ (y : q4), (wbZ y.1 /\ True) -> y.1 = dnsD p0.1.2 -> y.1 = mayT p0.1.1 p0.1.2) /\
  True)
def t166 : Prop :=
  ∀ (x : q2), (q37 x) -> True -> True /\ (∀ (y : q4), (q47 y) -> y.1 = hasP x.2.1 x.1 -> (y.1 = true -> (q379 <= (lnZ x.2.1) /\ (lnZ x.2.1) <= (lnZ x.1)) /\ List.drop (Int.toNat (lnZ x.2.1))
  x.1 = if hasP x.2.1 x.1 = true then List.drop (List.length x.2.1) x.1 else x.1) /\ (y.1 = false -> x.1 = if hasP x.2.1 x.1 = true then List.drop (List.length x.2.1) x.1 else x.1)) /\ True
theorem e166 : t166 = Con.vc c_stringslite_TrimPrefix GL (mkEnv ty [(181, conSem c_stringslite_HasPrefix)] [] [] [0, 1, 4, 7]) {} Tryz.f166.ntmps Tryz.f166.results.toList (bodyOf Tryz.f166) := by kernel_rfl
theorem k166 : t166 := by
  unfold t166
  delta q2 q37 q4 q47 q379 lnZ wsZ wbZ
  rintro ⟨l, c, _⟩ hx hp
  try dsimp +instances only [dft_int, dft_sl, dft_str]
  simp only [true_and, and_true, eq_self_iff_true, implies_true, reduceCtorEq, false_implies, true_implies, decide_eq_true_eq, decide_eq_false_iff_not, beq_self_eq_true, Bool.not_eq_true', ne_eq, Decidable.not_not, List.nil_append, List.length_singleton, List.length_cons, List.length_nil, Nat.zero_add, Nat.add_zero, Nat.mul_one, and_self, beq_iff_eq, Bool.not_true, Bool.not_false, Bool.not_eq_false', Bool.cond_false_right, Bool.and_eq_true, imp_self, Bool.not_eq_true, Bool.cond_true_left, Bool.or_eq_true]
  rintro ⟨y, _⟩ _ ey
  simp only at ey ⊢
  refine ⟨fun h => ?_, fun h => by rw [← ey, h]; rfl⟩
  have hq := ey.symm.trans h
  rw [← ey, h]
  unfold hasP at hq
  have := congrArg List.length (of_decide_eq_true hq)
  rw [List.length_take] at this
  exact ⟨⟨by omega, by omega⟩, by simp⟩
theorem h166 : c_stringslite_TrimPrefix.ok Tryz.prog GL 166 := con_ok (H := {}) (mkEnv_ok (gl := GL) (l := [(181, conSem c_stringslite_HasPrefix)]) (q := []) (d := []) _ tyOk (by kernel_rfl) ⟨h181.call, trivial⟩ trivial trivial) (by kernel_rfl) (by kernel_rfl) (Eq.mp e166 k166)
def t132 : Prop :=
  ∀ (x : q2), (q37 x) -> True -> True /\ (∀ (y : q5), (q68 y) -> (y.1 = if hasP x.2.1 x.1 = true then List.drop (List.length x.2.1) x.1 else x.1) -> y.1 = if hasP x.2.1 x.1 = true then
  List.drop (List.length x.2.1) x.1 else x.1) /\ True
theorem e132 : t132 = Con.vc c_strings_TrimPrefix GL (mkEnv ty [(166, conSem c_stringslite_TrimPrefix)] [] [] [0, 1, 4]) {} Tryz.f132.ntmps Tryz.f132.results.toList (bodyOf Tryz.f132) := by kernel_rfl
theorem k132 : t132 := by
  unfold t132
  delta q2 q37 q5 q68 wsZ
  rintro ⟨l, c, _⟩ hx hp
  try dsimp +instances only [dft_int, dft_sl, dft_str]
  simp only [true_and, and_true, eq_self_iff_true, implies_true, reduceCtorEq, false_implies, true_implies, decide_eq_true_eq, decide_eq_false_iff_not, beq_self_eq_true, Bool.not_eq_true', ne_eq, Decidable.not_not, List.nil_append, List.length_singleton, List.length_cons, List.length_nil, Nat.zero_add, Nat.add_zero, Nat.mul_one, and_self, beq_iff_eq, Bool.not_true, Bool.not_false, Bool.not_eq_false', Bool.cond_false_right, Bool.and_eq_true, imp_self, Bool.not_eq_true, Bool.cond_true_left, Bool.or_eq_true]
theorem h132 : c_strings_TrimPrefix.ok Tryz.prog GL 132 := con_ok (H := {}) (mkEnv_ok (gl := GL) (l := [(166, conSem c_stringslite_TrimPrefix)]) (q := []) (d := []) _ tyOk (by kernel_rfl) ⟨h166.call, trivial⟩ trivial trivial) (by kernel_rfl) (by kernel_rfl) (Eq.mp e132 k132)
def t133 : Prop :=
  ∀ (x : q5), (q68 x) -> List.length x.1 <= q84 -> (decide ((lnZ x.1) ≠ q125) = true -> True) /\ (decide ((lnZ x.1) ≠ q125) = true -> (decide ((lnZ x.1) ≠ q125) == true) = true /\ True) /\
  (decide ((lnZ x.1) ≠ q125) = true -> (decide ((lnZ x.1) ≠ q125) == true) = true /\ True) /\ (decide ((lnZ x.1) ≠ q125) = true -> (decide ((lnZ x.1) ≠ q125) == true) = true) /\ ((bif decide
  ((lnZ x.1) ≠ q125) then decide ((lnZ x.1) ≠ (32 : Int)) else false) = true -> false = maskD x.1) /\ ((bif decide ((lnZ x.1) ≠ q125) then decide ((lnZ x.1) ≠ (32 : Int)) else false) = false
  -> q75 ≠ q40 /\ ∃ (I : Int × Bool × Bool × Unit -> Unit -> Prop), ∃ (μ : Int × Bool × Bool × Unit -> Unit -> Nat), (wrZ (q334 x) = wrZ (q334 x) /\ wrZ (q520 x) = wrZ (q520 x) /\ Value.bool
  false = Value.bool false /\ x.1 = x.1 /\ I (q40, false, false, ()) ()) /\ ∀ (y : Int × Bool × Bool × Unit) (z : Unit), (wiZ y.1 /\ wbZ y.2.1 /\ wbZ y.2.2.1 /\ True) -> True -> I y z ->
  (decide (y.1 < wrZ (q334 x)) = true -> q125 ≠ q40 /\ (q40 <= wrZ (wrZ (q520 x) + wrZ (Int.tdiv y.1 (8 : Int))) /\ wrZ (wrZ (q520 x) + wrZ (Int.tdiv y.1 (8 : Int))) < (lnZ x.1)) /\ q125 ≠
  q40 /\ q40 <= wrZ ((7 : Int) - Int.tmod y.1 (8 : Int)) /\ (decide (q333 x y) = true -> True) /\ (decide (q333 x y) = true -> (decide (q333 x y) == true) = true) /\ (q329 x y) /\ ((q331 x y)
  = false -> (q330 x y) = true /\ True) /\ (q329 x y) /\ (q325 x y) /\ (q325 x y) /\ (q323 x y) /\ ((q328 x y) = true -> (q332 x y) = true -> (q326 x y) = true /\ (q326 x y) = true /\ (q40 <=
  wrZ (Int.tdiv y.1 (8 : Int)) /\ wrZ (Int.tdiv y.1 (8 : Int)) < (lnZ x.1)) /\ True) /\ (q325 x y) /\ (q323 x y) /\ (q324 x y) /\ ((q328 x y) = true -> (q332 x y) = true -> (q326 x y) = true
  /\ (q326 x y) = true /\ q40 <= wrZ ((7 : Int) - Int.tmod y.1 (8 : Int)) /\ True) /\ (q324 x y) /\ (q324 x y) /\ ((q331 x y) = false -> (q328 x y) = true /\ ((q332 x y) = true -> (q326 x y)
  = true) /\ True) /\ ((q331 x y) = false -> (q330 x y) = true) /\ ((q327 x y) = true -> false = maskD x.1) /\ ((q327 x y) = false -> (y.2.1 = false -> True) /\ (y.2.1 = false -> (y.2.1 ==
  false) = true /\ True) /\ (y.2.1 = false -> (y.2.1 == false) = true) /\ wrZ (q334 x) = wrZ (q334 x) /\ wrZ (q520 x) = wrZ (q520 x) /\ Value.bool false = Value.bool false /\ x.1 = x.1 /\ I
  (wrZ (y.1 + q72), bif y.2.1 then true else !decide (q333 x y), y.2.2.1, ()) () /\ μ (wrZ (y.1 + q72), bif y.2.1 then true else !decide (q333 x y), y.2.2.1, ()) () < μ y z)) /\ (decide (y.1
  < wrZ (q334 x)) = false -> true = maskD x.1))
theorem e133 : t133 = Con.vc c_within_mask GL (mkEnvO ty [] [] [] [0, 2, 3, 4, 5, 6, 14, 19, 20, 21, 54] [1000000]) {} Tryz.f133.ntmps Tryz.f133.results.toList (bodyOf Tryz.f133) := by kernel_rfl
theorem k133 : t133 := by
  unfold t133
  delta q5 q68 q84 lnZ q125 q75 q40 wrZ q334 q520 wiZ wbZ q333 q329 q331 q330 q325 q323 q328 q332 q326 q324 q327 q72 wsZ q499 q417 q472 q473 q470 q471 q469 q379 q480 q517 q505 q504 q515
  rintro ⟨s, _⟩ hx hp
  have hb : Bys s := str_bys hx.1
  have hp : s.length ≤ 1000000000 := hp
  clear hx
  try dsimp +instances only [dft_int, dft_sl, dft_str]
  simp only [true_and, and_true, eq_self_iff_true, implies_true, reduceCtorEq, false_implies, true_implies, decide_eq_true_eq, decide_eq_false_iff_not, beq_self_eq_true, Bool.not_eq_true', ne_eq, Decidable.not_not, List.nil_append, List.length_singleton, List.length_cons, List.length_nil, Nat.zero_add, Nat.add_zero, Nat.mul_one, and_self, beq_iff_eq, Bool.not_true, Bool.not_false, Bool.not_eq_false', Bool.cond_false_right, Bool.and_eq_true, imp_self, Bool.not_eq_true, Bool.cond_true_left, Bool.or_eq_true]
  refine ⟨fun h => ?_, fun h => ⟨by decide, ?_⟩⟩
  . rw [maskD, decide_eq_false (by omega)]; rfl
  have hL : s.length = 8 ∨ s.length = 32 := by simp at h; omega
  obtain ⟨n, hn, hL2⟩ : ∃ n : Nat, s.length / 2 = n ∧ s.length = 2 * n := ⟨s.length / 2, rfl, by omega⟩
  have hnb : n = 4 ∨ n = 16 := by omega
  have e1 : IntKind.i64.wrap ((s.length : Int).tdiv 2) = (n : Int) := by rw [Int.tdiv_eq_ediv_of_nonneg (by omega), wrapK _ (by omega) (by omega)]; omega
  have e2 : IntKind.i64.wrap (8 * (n : Int)) = 8 * n := wrapK _ (by omega) (by omega)
  simp only [e1, e2]
  have hM : maskD s = (List.range (8 * n)).all (okM (s.drop n) s) := by rw [maskD, decide_eq_true hL, hn, Bool.true_and]
  rw [hM]
  refine ⟨fun y _ => 0 ≤ y.1 ∧ y.1 ≤ 8 * (n : Int) ∧ (List.range y.1.toNat).all (okM (s.drop n) s) = true ∧ y.2.1 = (decide (0 < y.1) && !nbit (s.drop n) (y.1.toNat - 1)), fun y _ => (8 * (n : Int) - y.1).toNat, ⟨Int.le_refl 0, by simp only; omega, rfl, rfl⟩, ?_⟩
  rintro ⟨i, en, q, _⟩ z _ ⟨i0, i1, ha, he⟩
  simp only at i0 i1 ha he ⊢
  have e3 : IntKind.i64.wrap (i.tdiv 8) = i / 8 := by rw [Int.tdiv_eq_ediv_of_nonneg i0, wrapK _ (by omega) (by omega)]
  have e5 : IntKind.i64.wrap (7 - i.tmod 8) = 7 - i % 8 := by rw [Int.tmod_eq_emod_of_nonneg i0, wrapK _ (by omega) (by omega)]
  have e4 : IntKind.i64.wrap ((n : Int) + i / 8) = n + i / 8 := wrapK _ (by omega) (by omega)
  have e6 : IntKind.i64.wrap (i + 1) = i + 1 := wrapK _ (by omega) (by omega)
  have hr : (7 - i % 8).toNat ≤ 7 := by omega
  have b1 := bit_val (bys_gd hb ((n : Int) + i / 8).toNat) hr
  have b2 := bit_val (bys_gd hb (i / 8).toNat) hr
  simp only [e3, e4, e5, e6, b1, b2]
  have p1 : (s.getD ((n : Int) + i / 8).toNat 0 / 2 ^ (7 - i % 8).toNat % 2 = 1) ↔ nbit (s.drop n) i.toNat = true := by
    have hg : (s.drop n).getD (i.toNat / 8) 0 = s.getD ((n : Int) + i / 8).toNat 0 := by
      rw [List.getD_eq_getElem?_getD, List.getD_eq_getElem?_getD, List.getElem?_drop]
      congr 2
      omega
    rw [nbit, decide_eq_true_eq, hg, show (7 - i % 8).toNat = 7 - i.toNat % 8 by omega]
  have p2 : (s.getD (i / 8).toNat 0 / 2 ^ (7 - i % 8).toNat % 2 = 1) ↔ nbit s i.toNat = true := by
    rw [nbit, decide_eq_true_eq, show (i / 8).toNat = i.toNat / 8 by omega, show (7 - i % 8).toNat = 7 - i.toNat % 8 by omega]
  simp only [p1, p2, Bool.decide_eq_true]
  have hok : okM (s.drop n) s i.toNat = (if nbit (s.drop n) i.toNat then !en else !nbit s i.toNat) := by
    rw [okM, he]
    have : decide (0 < i) = decide (0 < i.toNat) := decide_eq_decide.2 (by omega)
    rw [this]
  have hst : (List.range (i + 1).toNat).all (okM (s.drop n) s) = okM (s.drop n) s i.toNat := by rw [show (i + 1).toNat = i.toNat + 1 by omega, range_step, ha, Bool.true_and]
  have hpos : decide (0 < i + 1) = true := decide_eq_true (by omega)
  have hpr : (i + 1).toNat - 1 = i.toNat := by omega
  rw [hst, hpos, hpr]
  refine ⟨fun hlt => ?_, fun hge => by rw [show 8 * n = i.toNat by omega, ha]⟩
  have hbad : okM (s.drop n) s i.toNat = false → (List.range (8 * n)).all (okM (s.drop n) s) = false := fun h => range_bad (by omega) h
  have q1 : 0 ≤ i / 8 ∧ i / 8 < (s.length : Int) := by omega
  have q2 : 0 ≤ 7 - i % 8 := by omega
  have q3 : 0 ≤ (n : Int) + i / 8 ∧ (n : Int) + i / 8 < (s.length : Int) := by omega
  have q4 : (8 * (n : Int) - (i + 1)).toNat < (8 * (n : Int) - i).toNat := by omega
  have q5 : 0 ≤ i + 1 ∧ i + 1 ≤ 8 * (n : Int) := by omega
  rw [hok] at hbad ⊢
  clear hok hst hpos hpr p1 p2 b1 b2 e1 e2 e3 e4 e5 e6 ha he
  generalize nbit (s.drop n) i.toNat = M at *
  generalize nbit s i.toNat = B at *
  generalize (List.range (8 * n)).all (okM (s.drop n) s) = A at *
  cases M <;> cases B <;> cases en <;> simp [q1, q2, q3, q4, q5] at hbad ⊢ <;> first | exact hbad | exact hbad.symm | exact ⟨by omega, hbad⟩ | omega
theorem h133 : c_within_mask.ok Tryz.prog GL 133 := conO_ok (H := {}) (mkEnvO_ok (gl := GL) (l := []) (q := []) (d := []) _ [1000000] tyOk (by kernel_rfl) trivial trivial trivial) (by kernel_rfl) (by kernel_rfl) (Eq.mp e133 k133)
def t94 : Prop :=
  ∀ (x : q13), (q138 x) -> List.length x.1.2 <= q155 -> List.length [SV.dat q140 x.1.1, SV.dat Kd.str x.1.2] <= q69 /\ (decide (x.1.1 = q72) = true -> List.length x.1.2 <= q84 /\ (∀ (y : q4),
  (q47 y) -> y.1 = emailD x.1.2 -> (y.1 = false -> True) /\ (q265 y) /\ (y.1 = false -> (y.1 == false) = true /\ True /\ (∀ (y : q5), (q68 y) -> (y.1 = if hasP q292 x.1.2 = true then
  List.drop (List.length q292) x.1.2 else x.1.2) -> List.length y.1 <= q84 /\ (∀ (y_1 : q4), (q47 y_1) -> y_1.1 = dnsD y.1 -> y_1.1 = mayT x.1.1 x.1.2) /\ True) /\ True) /\ (y.1 = !false ->
  true = mayT x.1.1 x.1.2)) /\ True) /\ (decide (x.1.1 = q72) = false -> (q335 x) /\ (decide (x.1.1 = q75) = false -> (decide (x.1.1 = q73) = true -> List.length x.1.2 <= q155 /\ (∀ (y : q4),
  (q47 y) -> y.1 = mayG q73 x.1.2 -> y.1 = mayT x.1.1 x.1.2) /\ True) /\ (decide (x.1.1 = q73) = false -> (decide (x.1.1 = (7 : Int)) = true -> List.length x.1.2 <= q84 /\ (∀ (y : q4), (q47
  y) -> y.1 = maskD x.1.2 -> y.1 = mayT x.1.1 x.1.2) /\ True) /\ (decide (x.1.1 = (7 : Int)) = false -> false = mayT x.1.1 x.1.2))))
theorem e94 : t94 = Con.vc c_within_May GL (mkEnvO ty [(130, conSem c_host_Email), (131, conSem c_host_DNS), (132, conSem c_strings_TrimPrefix), (54, conSem c_host_May), (133, conSem c_within_mask)] [] [] [0, 1, 2, 4, 5, 16, 21, 27] [1000000,3000001]) {} Tryz.f94.ntmps Tryz.f94.results.toList (bodyOf Tryz.f94) := by kernel_rfl
theorem k94 : t94 := by
  unfold t94
  delta q13 q138 q155 q140 q69 q72 q84 q4 q47 q265 q5 q68 q292 q335 q75 q73 q415 wbZ wsZ q428 q494
  rintro ⟨⟨k, b⟩, _⟩ hx hp
  have hp : b.length ≤ 100000000 := hp
  clear hx
  try dsimp +instances only [dft_int, dft_sl, dft_str]
  simp only [true_and, and_true, eq_self_iff_true, implies_true, reduceCtorEq, false_implies, true_implies, decide_eq_true_eq, decide_eq_false_iff_not, beq_self_eq_true, Bool.not_eq_true', ne_eq, Decidable.not_not, List.nil_append, List.length_singleton, List.length_cons, List.length_nil, Nat.zero_add, Nat.add_zero, Nat.mul_one, and_self, beq_iff_eq, Bool.not_true, Bool.not_false, Bool.not_eq_false', Bool.cond_false_right, Bool.and_eq_true, imp_self, Bool.not_eq_true, Bool.cond_true_left, Bool.or_eq_true]
  have b46 : bs { data := #[46] } = [46] := rfl
  rw [b46]
  refine ⟨by decide, fun h => ⟨by omega, ?_⟩, fun h1 => ⟨fun h => ⟨by omega, ?_⟩, fun h2 => ⟨fun h => ⟨by omega, ?_⟩, fun h4 => ⟨fun h => ⟨by omega, ?_⟩, fun h7 => ?_⟩⟩⟩⟩
  . rintro ⟨y, _⟩ _ ey
    simp only at ey ⊢
    subst h
    have hd : hasP [46] b = true → emailD b = false := mail_dot
    refine ⟨fun hy => ⟨hy, ?_⟩, fun hy => ?_⟩
    . rintro ⟨z, _⟩ _ ez
      simp only at ez ⊢
      refine ⟨by rw [ez]; split; (rw [List.length_drop]; omega); omega, ?_⟩
      rintro ⟨w, _⟩ _ ew
      simp only at ew ⊢
      rw [ew, ez, mayT, if_pos rfl]
      cases hq : hasP [46] b
      . simp [← ey, hy]
      . simp
    . have he : emailD b = true := by rw [← ey]; exact hy
      rw [mayT, if_pos rfl]
      cases hq : hasP [46] b
      . simp [he]
      . rw [hd hq] at he; cases he
  . rintro ⟨y, _⟩ _ ey
    simp only at ey ⊢
    subst h
    rw [ey]; rfl
  . rintro ⟨y, _⟩ _ ey
    simp only at ey ⊢
    subst h
    rw [ey]; rfl
  . rintro ⟨y, _⟩ _ ey
    simp only at ey ⊢
    subst h
    rw [ey]; rfl
  . rw [mayT, if_neg h1, if_neg h2, if_neg h4, if_neg h7]
theorem h94 : c_within_May.ok Tryz.prog GL 94 := conO_ok (H := {}) (mkEnvO_ok (gl := GL) (l := [(130, conSem c_host_Email), (131, conSem c_host_DNS), (132, conSem c_strings_TrimPrefix), (54, conSem c_host_May), (133, conSem c_within_mask)]) (q := []) (d := []) _ [1000000,3000001] tyOk (by kernel_rfl) ⟨h130.call, h131.call, h132.call, h54.call, h133.call, trivial⟩ trivial trivial) (by kernel_rfl) (by kernel_rfl) (Eq.mp e94 k94)
end Go.Proofs.YtiofbnlbfmbodaaGreatDoor
end
section
namespace Go.Proofs.YtiofbnlbfmbodaaGreatDoor
open Go Go.Vc Go.Pl Go.Proofs
def c_r14_bit : Con := { args := [.dat .str, .dat I64], res := [.dat I64], pre := fun x => 0 ≤ x.2.1 ∧ x.2.1 < 8 * (x.1.length : Int) ∧ x.1.length ≤ 1000000000, post := fun x y => y.1 = if nbit x.1 x.2.1.toNat then 1 else 0 }
end Go.Proofs.YtiofbnlbfmbodaaGreatDoor
end
section
namespace Go.Proofs.YtiofbnlbfmbodaaGreatDoor
open Go Go.Vc Go.Pl Go.Proofs
set_option linter.unusedVariables false
set_option linter.unusedSimpArgs false
theorem bit_tmod {a : Int} (ha : 0 ≤ a ∧ a ≤ 255) {r : Nat} (hr : r ≤ 7) : (IntKind.i64.wrap (a.fdiv (2 ^ min r 8))).tmod 2 = a / 2 ^ r % 2 := by
  have key : ∀ a : Fin 256, ∀ r : Fin 8, (IntKind.i64.wrap ((a.val : Int).fdiv (2 ^ min r.val 8))).tmod 2 = (a.val : Int) / 2 ^ r.val % 2 := by decide +kernel
  have := key ⟨a.toNat, by omega⟩ ⟨r, by omega⟩
  simpa [Int.toNat_of_nonneg ha.1] using this
def t99 : Prop :=
  ∀ (x : q0), (wsZ x.1 /\ wiZ x.2.1 /\ True) -> q40 <= x.2.1 /\ x.2.1 < q125 * (lnZ x.1) /\ List.length x.1 <= q84 -> q125 ≠ q40 /\ (q40 <= wrZ (Int.tdiv x.2.1 q125) /\ wrZ (Int.tdiv x.2.1
  q125) < (lnZ x.1)) /\ q125 ≠ q40 /\ q40 <= wrZ ((7 : Int) - Int.tmod x.2.1 q125) /\ q75 ≠ q40 /\ Int.tmod (wrZ (Int.fdiv (List.getD x.1 (Int.toNat (wrZ (Int.tdiv x.2.1 q125))) q40) (q75 ^
  min (Int.toNat (wrZ ((7 : Int) - Int.tmod x.2.1 q125))) q480))) q75 = if nbit x.1 (Int.toNat x.2.1) = true then q72 else q40
theorem e99 : t99 = Con.vc c_r14_bit GL (mkEnv ty [] [] [] [0, 1, 4]) {} Tryz.f99.ntmps Tryz.f99.results.toList (bodyOf Tryz.f99) := by kernel_rfl
theorem k99 : t99 := by
  unfold t99
  delta q0 wsZ wiZ q40 q125 lnZ q84 wrZ q75 q480 q72
  rintro ⟨s, i, _⟩ hx hp
  have hb : Bys s := str_bys hx.1
  obtain ⟨h0, h1, h2⟩ := hp
  simp only at h0 h1 h2
  clear hx
  try dsimp +instances only [dft_int, dft_sl, dft_str]
  simp only [true_and, and_true, eq_self_iff_true, implies_true, reduceCtorEq, false_implies, true_implies, decide_eq_true_eq, decide_eq_false_iff_not, beq_self_eq_true, Bool.not_eq_true', ne_eq, Decidable.not_not, List.nil_append, List.length_singleton, List.length_cons, List.length_nil, Nat.zero_add, Nat.add_zero, Nat.mul_one, and_self, beq_iff_eq, Bool.not_true, Bool.not_false, Bool.not_eq_false', Bool.cond_false_right, Bool.and_eq_true, imp_self, Bool.not_eq_true, Bool.cond_true_left, Bool.or_eq_true]
  have e3 : IntKind.i64.wrap (i.tdiv 8) = i / 8 := by rw [Int.tdiv_eq_ediv_of_nonneg h0, wrapK _ (by omega) (by omega)]
  have e5 : IntKind.i64.wrap (7 - i.tmod 8) = 7 - i % 8 := by rw [Int.tmod_eq_emod_of_nonneg h0, wrapK _ (by omega) (by omega)]
  simp only [e3, e5]
  rw [bit_tmod (bys_gd hb _) (by omega)]
  refine ⟨by decide, ⟨by omega, by omega⟩, by decide, by omega, by decide, ?_⟩
  have : nbit s i.toNat = decide (s.getD (i / 8).toNat 0 / 2 ^ (7 - i % 8).toNat % 2 = 1) := by rw [nbit, show (i / 8).toNat = i.toNat / 8 by omega, show (7 - i % 8).toNat = 7 - i.toNat % 8 by omega]
  rw [this]
  by_cases h : s.getD (i / 8).toNat 0 / 2 ^ (7 - i % 8).toNat % 2 = 1
  . rw [if_pos (decide_eq_true h)]; exact h
  . rw [if_neg (by simpa using h)]
    omega
theorem h99 : c_r14_bit.ok Tryz.prog GL 99 := con_ok (H := {}) (mkEnv_ok (gl := GL) (l := []) (q := []) (d := []) _ tyOk (by kernel_rfl) trivial trivial trivial) (by kernel_rfl) (by kernel_rfl) (Eq.mp e99 k99)
end Go.Proofs.YtiofbnlbfmbodaaGreatDoor
end
section
namespace Go.Proofs.YtiofbnlbfmbodaaGreatDoor
open Go Go.Vc Go.Pl Go.Proofs
def c_r14_May : Con := { args := [.dat GT], res := [.dat .bool], pre := fun x => x.1.2.length ≤ 100000000, post := fun x y => y.1 = mayT x.1.1 x.1.2 }
end Go.Proofs.YtiofbnlbfmbodaaGreatDoor
end
section
namespace Go.Proofs.YtiofbnlbfmbodaaGreatDoor
open Go Go.Vc Go.Pl Go.Proofs
set_option linter.unusedVariables false
set_option linter.unusedSimpArgs false
set_option maxRecDepth 20000
theorem bit_one (c : Bool) : ((if c = true then (1 : Int) else 0) = 1) ↔ c = true := by cases c <;> simp
theorem dot_head {b : List Int} (h : b ≠ []) : (b.getD 0 0 = 46) ↔ hasP [46] b = true := by
  cases b with
  | nil => exact absurd rfl h
  | cons a l => simp [hasP]
abbrev q474 (p0 : q1) (p1 : q9) := (bif decide (p0.1 = (1 : Int)) then decide (q482 < p1.1) else false)
abbrev q336 (p0 : q1) (p1 : q9) := ((q474 p0 p1) = true -> ((q474 p0 p1) == true) = true /\ True)
abbrev q337 (p0 : q1) (p1 : q1) := ((decide (p0.1 = q379) == false && decide (p0.1 = q379) == false) = true -> decide (p1.1 = q379) = true -> True)
abbrev q338 (p0 : q1) (p1 : q1) := (decide (p0.1 = q379) == false && decide (p0.1 = q379) == false && decide (p1.1 = q379) == true)
abbrev q339 (p0 : q13) := (bif decide (q379 < (lnZ p0.1.2)) then decide (List.getD p0.1.2 q402 q379 = (46 : Int)) else false)
abbrev q340 (p0 : q13) := (q379 <= wrZ (Int.tdiv (lnZ p0.1.2) q428) /\ wrZ (Int.tdiv (lnZ p0.1.2) q428) <= (lnZ p0.1.2))
abbrev q341 (p0 : q13) := (decide (q379 < (lnZ p0.1.2)) = true -> (decide (q379 < (lnZ p0.1.2)) == true) = true /\ True)
abbrev q342 (p0 : q13) := (decide ((lnZ p0.1.2) ≠ (8 : Int)) = true -> (decide ((lnZ p0.1.2) ≠ (8 : Int)) == true) = true /\ True)
abbrev q343 (p0 : q1) (p1 : q9) := ((q474 p0 p1) = true -> True)
abbrev q344 (p0 : q1) (p1 : q9) := ((q474 p0 p1) == true)
abbrev q345 (p0 : q1) := (decide (p0.1 = q379) == false && decide (p0.1 = q379) == false)
abbrev q346 (p0 : q1) (p1 : q9) := (bif decide (p0.1 = q417) then decide (q379 < p1.1) else false)
abbrev q347 (p0 : q13) := (List.drop (Int.toNat (wrZ (Int.tdiv (lnZ p0.1.2) q428))) p0.1.2)
abbrev q348 (p0 : q13) := (Int.tdiv (lnZ p0.1.2) q428)
def t44 : Prop :=
  ∀ (x : q13), (q138 x) -> List.length x.1.2 <= q155 -> List.length [SV.dat q140 x.1.1, SV.dat Kd.str x.1.2] <= q69 /\ (decide (x.1.1 = q72) = true -> (decide (q379 < (lnZ x.1.2)) = true ->
  True) /\ (q341 x) /\ (decide (q379 < (lnZ x.1.2)) = true -> (decide (q379 < (lnZ x.1.2)) == true) = true /\ (q40 <= q40 /\ q40 < (lnZ x.1.2)) /\ True) /\ (q341 x) /\ (decide (q379 < (lnZ
  x.1.2)) = true -> (decide (q379 < (lnZ x.1.2)) == true) = true) /\ ((q339 x) = true -> (q40 <= q72 /\ q72 <= (lnZ x.1.2)) /\ List.length (List.drop q42 x.1.2) <= q84 /\ (∀ (y : q4), (q47 y)
  -> y.1 = dnsD (List.drop q42 x.1.2) -> y.1 = mayT x.1.1 x.1.2) /\ True) /\ ((q339 x) = false -> List.length x.1.2 <= q84 /\ (∀ (y : q4), (q47 y) -> y.1 = emailD x.1.2 -> (y.1 = false ->
  True) /\ (q265 y) /\ (y.1 = false -> (y.1 == false) = true /\ List.length x.1.2 <= q84 /\ (∀ (y : q4), (q47 y) -> y.1 = dnsD x.1.2 -> y.1 = mayT x.1.1 x.1.2) /\ True) /\ (y.1 = !false ->
  true = mayT x.1.1 x.1.2)) /\ True)) /\ (decide (x.1.1 = q72) = false -> (q335 x) /\ (decide (x.1.1 = q75) = false -> (decide (x.1.1 = q73) = true -> lenB x.1.2 <= q155 /\ (∀ (y : q28),
  (Kd.wf q244 y.1 /\ wiZ y.2.1 /\ True) -> decQ x.1.2 y.1 y.2.1 = true -> decide (y.2.1 = q40) = mayT x.1.1 x.1.2) /\ True) /\ (decide (x.1.1 = q73) = false -> (decide (x.1.1 = (7 : Int)) =
  true -> (decide ((lnZ x.1.2) ≠ (8 : Int)) = true -> True) /\ (q342 x) /\ (q342 x) /\ (q342 x) /\ (decide ((lnZ x.1.2) ≠ (8 : Int)) = true -> (decide ((lnZ x.1.2) ≠ (8 : Int)) == true) =
  true) /\ ((bif decide ((lnZ x.1.2) ≠ (8 : Int)) then decide ((lnZ x.1.2) ≠ (32 : Int)) else false) = true -> false = mayT x.1.1 x.1.2) /\ ((bif decide ((lnZ x.1.2) ≠ (8 : Int)) then decide
  ((lnZ x.1.2) ≠ (32 : Int)) else false) = false -> q75 ≠ q40 /\ ∃ (I : Int × Bool × Unit -> Unit × Unit -> Prop), ∃ (μ : Int × Bool × Unit -> Unit × Unit -> Nat), (wrZ (q348 x) = wrZ (q348
  x) /\ Value.bool false = Value.bool false /\ Value.bool true = Value.bool true /\ Value.bool false = Value.bool false /\ Value.bool false = Value.bool false /\ Value.bool false = Value.bool
  false /\ x.1.1 = x.1.1 /\ x.1 = x.1 /\ x.1.1 = x.1.1 /\ x.1.2 = x.1.2 /\ I (q40, false, ()) ((), ())) /\ ∀ (y : q9) (z : Unit × Unit), (q83 y) -> True /\ True -> I y z -> (decide (y.1 < wrZ
  (q125 * wrZ (q348 x))) = true -> (q340 x) /\ (q40 <= y.1 /\ y.1 < q125 * (lnZ (q347 x)) /\ List.length (q347 x) <= q84) /\ (∀ (y_1 : q1), (q36 y_1) -> (y_1.1 = if nbit (q347 x) (q384 y) =
  true then q72 else q40) -> (decide (y_1.1 = q417) = true -> True) /\ (decide (y_1.1 = q417) = true -> (decide (y_1.1 = q417) == true) = true /\ True) /\ (decide (y_1.1 = q417) = true ->
  (decide (y_1.1 = q417) == true) = true) /\ (q343 y_1 y) /\ (q336 y_1 y) /\ (q343 y_1 y) /\ ((q346 y_1 y) = true -> (q344 y_1 y) = true /\ (q344 y_1 y) = true /\ (q340 x) /\ True) /\ (q343
  y_1 y) /\ (q336 y_1 y) /\ ((q346 y_1 y) = true -> (q344 y_1 y) = true /\ (q344 y_1 y) = true /\ (q40 <= wrZ (y.1 - q72) /\ wrZ (y.1 - q72) < q125 * (lnZ (q347 x)) /\ List.length (q347 x) <=
  q84) /\ (∀ (y_2 : q1), (q36 y_2) -> (y_2.1 = if nbit (q347 x) (Int.toNat (wrZ (y.1 - q72))) = true then q72 else q40) -> (decide (q97 y_2) = false -> True) /\ (decide (q97 y_2) = false ->
  (decide (q97 y_2) == false) = true /\ True) /\ (decide (q97 y_2) = false -> True) /\ (q337 y_2 y_1) /\ ((q345 y_2) = true -> decide (q97 y_1) = true -> (q338 y_2 y_1) = true /\ True) /\
  (q337 y_2 y_1) /\ ((q345 y_2) = true -> decide (q97 y_1) = true -> (q338 y_2 y_1) = true /\ (q338 y_2 y_1) = true /\ (q40 <= y.1 /\ y.1 < q125 * (lnZ x.1.2) /\ List.length x.1.2 <= q84) /\
  (∀ (y_3 : q1), (q36 y_3) -> (y_3.1 = if nbit x.1.2 (q384 y) = true then q72 else q40) -> (decide (q97 y_2) = false -> True) /\ (decide (q97 y_2) = false -> (decide (q97 y_2) == false) =
  true) /\ ((bif decide (q97 y_2) then true else decide (y_3.1 = q417)) = true -> false = mayT x.1.1 x.1.2) /\ ((bif decide (q97 y_2) then true else decide (y_3.1 = q417)) = false -> wrZ
  (q348 x) = wrZ (q348 x) /\ Value.bool false = Value.bool false /\ Value.bool true = Value.bool true /\ Value.bool false = Value.bool false /\ Value.bool false = Value.bool false /\
  Value.bool false = Value.bool false /\ x.1.1 = x.1.1 /\ x.1 = x.1 /\ x.1.1 = x.1.1 /\ x.1.2 = x.1.2 /\ I (wrZ (q85 y), y.2.1, ()) ((), ()) /\ μ (wrZ (q85 y), y.2.1, ()) ((), ()) < μ y z))
  /\ True) /\ ((q345 y_2) = true -> decide (q97 y_1) = !true -> (decide (q97 y_2) = false -> True) /\ (decide (q97 y_2) = false -> (decide (q97 y_2) == false) = true) /\ ((bif decide (q97
  y_2) then true else false) = true -> false = mayT x.1.1 x.1.2) /\ ((bif decide (q97 y_2) then true else false) = false -> wrZ (q348 x) = wrZ (q348 x) /\ Value.bool false = Value.bool false
  /\ Value.bool true = Value.bool true /\ Value.bool false = Value.bool false /\ Value.bool false = Value.bool false /\ Value.bool false = Value.bool false /\ x.1.1 = x.1.1 /\ x.1 = x.1 /\
  x.1.1 = x.1.1 /\ x.1.2 = x.1.2 /\ I (wrZ (q85 y), y.2.1, ()) ((), ()) /\ μ (wrZ (q85 y), y.2.1, ()) ((), ()) < μ y z)) /\ ((q345 y_2) = false -> (decide (q97 y_2) = false -> False) /\
  (decide (q97 y_2) = !false -> false = mayT x.1.1 x.1.2))) /\ True) /\ ((q346 y_1 y) = !true -> (decide (q97 y_1) = true -> True) /\ (decide (q97 y_1) = true -> (decide (q97 y_1) == true) =
  true /\ True) /\ (decide (q97 y_1) = true -> True) /\ (decide (q97 y_1) = true -> (decide (q97 y_1) == true) = true /\ (decide (q97 y_1) == true) = true /\ (q40 <= y.1 /\ y.1 < q125 * (lnZ
  x.1.2) /\ List.length x.1.2 <= q84) /\ (∀ (y_2 : q1), (q36 y_2) -> (y_2.1 = if nbit x.1.2 (q384 y) = true then q72 else q40) -> (decide (y_2.1 = q417) = true -> false = mayT x.1.1 x.1.2) /\
  (decide (y_2.1 = q417) = false -> wrZ (q348 x) = wrZ (q348 x) /\ Value.bool false = Value.bool false /\ Value.bool true = Value.bool true /\ Value.bool false = Value.bool false /\
  Value.bool false = Value.bool false /\ Value.bool false = Value.bool false /\ x.1.1 = x.1.1 /\ x.1 = x.1 /\ x.1.1 = x.1.1 /\ x.1.2 = x.1.2 /\ I (wrZ (q85 y), y.2.1, ()) ((), ()) /\ μ (wrZ
  (q85 y), y.2.1, ()) ((), ()) < μ y z)) /\ True) /\ (decide (q97 y_1) = !true -> wrZ (q348 x) = wrZ (q348 x) /\ Value.bool false = Value.bool false /\ Value.bool true = Value.bool true /\
  Value.bool false = Value.bool false /\ Value.bool false = Value.bool false /\ Value.bool false = Value.bool false /\ x.1.1 = x.1.1 /\ x.1 = x.1 /\ x.1.1 = x.1.1 /\ x.1.2 = x.1.2 /\ I (wrZ
  (q85 y), y.2.1, ()) ((), ()) /\ μ (wrZ (q85 y), y.2.1, ()) ((), ()) < μ y z))) /\ True) /\ (decide (y.1 < wrZ (q125 * wrZ (q348 x))) = false -> true = mayT x.1.1 x.1.2))) /\ (decide (x.1.1
  = (7 : Int)) = false -> false = mayT x.1.1 x.1.2))))
theorem e44 : t44 = Con.vc c_r14_May GL (mkEnvO ty [(96, conSem c_r13_DNS), (97, conSem c_r13_Email), (98, conSem c_r12_Decode), (99, conSem c_r14_bit)] [] [] [0, 1, 2, 4, 5, 6, 7, 9, 10, 21, 34, 39, 50, 61, 69, 104] [1000000,3000001]) {} Tryz.f44.ntmps Tryz.f44.results.toList (bodyOf Tryz.f44) := by kernel_rfl
theorem k44 : t44 := by
  unfold t44
  delta q13 q138 q155 q140 q69 q72 q379 lnZ q341 q40 q339 q42 q84 q4 q47 q265 q335 q75 q73 q28 q244 wiZ q342 wrZ q348 q9 q83 q125 q340 q347 q1 q36 q384 q417 q343 q336 q346 q344 q97 q337 q345 q338 q85 q415 q402 wbZ q428 q474 q494 q482
  rintro ⟨⟨k, b⟩, _⟩ hx hp
  have hp : b.length ≤ 100000000 := hp
  have wb : Bys b := str_bys hx.1.2
  clear hx
  try dsimp +instances only [dft_int, dft_sl, dft_str]
  simp only [true_and, and_true, eq_self_iff_true, implies_true, reduceCtorEq, false_implies, true_implies, decide_eq_true_eq, decide_eq_false_iff_not, beq_self_eq_true, Bool.not_eq_true', ne_eq, Decidable.not_not, List.nil_append, List.length_singleton, List.length_cons, List.length_nil, Nat.zero_add, Nat.add_zero, Nat.mul_one, and_self, beq_iff_eq, Bool.not_true, Bool.not_false, Bool.not_eq_false', Bool.cond_false_right, Bool.and_eq_true, imp_self, Bool.not_eq_true, Bool.cond_true_left, Bool.or_eq_true]
  refine ⟨by decide, fun h => ⟨fun h0 => ⟨h0, by decide, h0⟩, fun h0 => ⟨⟨by decide, by omega⟩, ?_⟩, fun h0 => ⟨by omega, ?_⟩⟩, fun h1 => ⟨fun h => ⟨by omega, ?_⟩, fun h2 => ⟨fun h => ⟨by rw [lenB]; omega, ?_⟩, fun h4 => ⟨fun h => ⟨fun h0 => ?_, fun h0 => ⟨by decide, ?_⟩⟩, fun h7 => ?_⟩⟩⟩⟩
  . refine ⟨by rw [List.length_drop]; omega, ?_⟩
    rintro ⟨y, _⟩ _ ey
    simp only at ey ⊢
    subst h
    have hd : hasP [46] b = true := (dot_head (by rintro rfl; simp at h0)).1 h0.2
    rw [ey, mayT, if_pos rfl, if_pos hd]
  . subst h
    have hd : hasP [46] b = false := by
      cases e : hasP [46] b
      . rfl
      . obtain ⟨r, rfl⟩ := hasP_iff.1 e
        simp at h0
    rintro ⟨y, _⟩ _ ey
    simp only at ey ⊢
    have hm : mayT 1 b = (emailD b || dnsD b) := by rw [mayT, if_pos rfl, hd]; rfl
    rw [hm]
    refine ⟨fun hy => ⟨hy, by omega, ?_⟩, fun hy => by rw [← ey, hy]; rfl⟩
    rintro ⟨z, _⟩ _ ez
    simp only at ez ⊢
    rw [← ey, hy, ez]; rfl
  . rintro ⟨y, _⟩ _ ey
    simp only at ey ⊢
    subst h
    rw [ey]; rfl
  . rintro ⟨l, e, _⟩ _ h3
    simp only at h3 ⊢
    subst h
    exact (dec_named h3).1
  . subst h
    show false = maskD b
    rw [maskD, decide_eq_false (by omega)]; rfl
  . subst h
    have hL : b.length = 8 ∨ b.length = 32 := by simp at h0; omega
    obtain ⟨n, hn, hL2⟩ : ∃ n : Nat, b.length / 2 = n ∧ b.length = 2 * n := ⟨b.length / 2, rfl, by omega⟩
    have hnb : n = 4 ∨ n = 16 := by omega
    have e1 : IntKind.i64.wrap ((b.length : Int).tdiv 2) = (n : Int) := by rw [Int.tdiv_eq_ediv_of_nonneg (by omega), wrapK _ (by omega) (by omega)]; omega
    have e2 : IntKind.i64.wrap (8 * (n : Int)) = 8 * n := wrapK _ (by omega) (by omega)
    simp only [e1, e2, Int.toNat_natCast]
    have hM : mayT 7 b = (List.range (8 * n)).all (okM (b.drop n) b) := by
      show maskD b = _
      rw [maskD, decide_eq_true hL, hn, Bool.true_and]
    rw [hM]
    have hdl : (List.drop n b).length = n := by rw [List.length_drop]; omega
    refine ⟨fun y _ => 0 ≤ y.1 ∧ y.1 ≤ 8 * (n : Int) ∧ (List.range y.1.toNat).all (okM (b.drop n) b) = true, fun y _ => (8 * (n : Int) - y.1).toNat, ⟨Int.le_refl 0, by simp only; omega, rfl⟩, ?_⟩
    rintro ⟨i, q, _⟩ z _ ⟨i0, i1, ha⟩
    simp only at i0 i1 ha ⊢
    have e6 : IntKind.i64.wrap (i + 1) = i + 1 := wrapK _ (by omega) (by omega)
    have e7 : IntKind.i64.wrap (i - 1) = i - 1 := wrapK _ (by omega) (by omega)
    simp only [e6, e7, hdl]
    have hst : (List.range (i + 1).toNat).all (okM (b.drop n) b) = okM (b.drop n) b i.toNat := by rw [show (i + 1).toNat = i.toNat + 1 by omega, range_step, ha, Bool.true_and]
    refine ⟨fun hlt => ⟨⟨by omega, by omega⟩, ⟨i0, by omega, by omega⟩, ?_⟩, fun hge => by rw [show 8 * n = i.toNat by omega, ha]⟩
    have hbad : okM (b.drop n) b i.toNat = false → (List.range (8 * n)).all (okM (b.drop n) b) = false := fun h => range_bad (by omega) h
    have hgood : okM (b.drop n) b i.toNat = true → (0 ≤ i + 1 ∧ i + 1 ≤ 8 * (n : Int) ∧ (List.range (i + 1).toNat).all (okM (b.drop n) b) = true) ∧ (8 * (n : Int) - (i + 1)).toNat < (8 * (n : Int) - i).toNat := fun h => ⟨⟨by omega, by omega, by rw [hst]; exact h⟩, by omega⟩
    have hok : okM (b.drop n) b i.toNat = (if nbit (b.drop n) i.toNat then !(decide (0 < i) && !nbit (b.drop n) (i - 1).toNat) else !nbit b i.toNat) := by
      rw [okM, show (i - 1).toNat = i.toNat - 1 by omega]
      have : decide (0 < i) = decide (0 < i.toNat) := decide_eq_decide.2 (by omega)
      rw [this]
    rw [hok] at hbad hgood
    clear hok hst
    have q1 : 0 ≤ (n : Int) ∧ (n : Int) ≤ b.length := by omega
    have q2 : i < 8 * (b.length : Int) := by omega
    have q3 : b.length ≤ 1000000000 := by omega
    have q4 : n ≤ 1000000000 := by omega
    have q5 : 0 < i → 0 ≤ i - 1 ∧ i - 1 < 8 * (n : Int) := fun h => by omega
    generalize (List.range (8 * n)).all (okM (b.drop n) b) = A at *
    generalize nbit (b.drop n) i.toNat = M at *
    generalize nbit b i.toNat = C at *
    generalize nbit (b.drop n) (i - 1).toNat = P at *
    rintro ⟨y1, _⟩ _ ey1
    simp only at ey1 ⊢
    subst ey1
    refine ⟨fun h => ⟨h, h, q1⟩, fun h => ⟨h, h, ⟨(q5 h.2).1, (q5 h.2).2, q4⟩, ?_⟩, fun h => ⟨fun h3 => ⟨h3, h3, ⟨i0, q2, q3⟩, ?_⟩, fun h3 => ?_⟩⟩
    . have hM : M = true := (bit_one M).1 h.1
      subst hM
      rintro ⟨y2, _⟩ _ ey2
      simp only at ey2 ⊢
      subst ey2
      have hd : decide (0 < i) = true := decide_eq_true h.2
      rw [hd] at hbad hgood
      cases P
      . have hA : A = false := hbad rfl
        simp [hA]
      . have hg := hgood rfl
        simp [hg]
        try exact hg
    . have hM : M = false := by
        cases M
        . rfl
        . simp at h3
      subst hM
      rintro ⟨y2, _⟩ _ ey2
      simp only at ey2 ⊢
      subst ey2
      cases C
      . have hg := hgood rfl
        exact ⟨fun h => absurd h (by decide), fun _ => hg⟩
      . have hA : A = false := hbad rfl
        exact ⟨fun _ => hA.symm, fun h => absurd rfl h⟩
    . have hM : M = true := by
        cases M
        . simp at h3
        . rfl
      subst hM
      have hd : decide (0 < i) = false := by simpa using h
      rw [hd] at hgood
      exact hgood rfl
  . rw [mayT, if_neg h1, if_neg h2, if_neg h4, if_neg h7]
theorem h44 : c_r14_May.ok Tryz.prog GL 44 := conO_ok (H := {}) (mkEnvO_ok (gl := GL) (l := [(96, conSem c_r13_DNS), (97, conSem c_r13_Email), (98, conSem c_r12_Decode), (99, conSem c_r14_bit)]) (q := []) (d := []) _ [1000000,3000001] tyOk (by kernel_rfl) ⟨h96.call, h97.call, h98.call, h99.call, trivial⟩ trivial trivial) (by kernel_rfl) (by kernel_rfl) (Eq.mp e44 k44)
end Go.Proofs.YtiofbnlbfmbodaaGreatDoor
end
