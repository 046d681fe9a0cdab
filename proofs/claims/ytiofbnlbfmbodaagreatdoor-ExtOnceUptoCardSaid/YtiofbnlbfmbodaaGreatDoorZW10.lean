/- Texts of a verified walk, led together: Within2A, Within2W, R14A, R14W, R14bA, R14bW. -/
import Derived.Test.YtiofbnlbfmbodaaGreatDoorZW09
import Derived.Test.YtiofbnlbfmbodaaGreatDoorZV16
set_option linter.unusedVariables false
set_option linter.unusedSimpArgs false
section
namespace Go.Proofs.YtiofbnlbfmbodaaGreatDoor
open Go Go.Vc Go.Pl Go.Proofs
def c_stringslite_TrimPrefix : Con := { args := [.dat .str, .dat .str], res := [.dat .str], pre := fun _ => True, post := fun x y => y.1 = if hasP x.2.1 x.1 then x.1.drop x.2.1.length else x.1 }
def c_strings_TrimPrefix : Con := { args := [.dat .str, .dat .str], res := [.dat .str], pre := fun _ => True, post := fun x y => y.1 = if hasP x.2.1 x.1 then x.1.drop x.2.1.length else x.1 }
def c_within_mask : Con := { args := [.dat .str], res := [.dat .bool], pre := fun x => x.1.length ≤ 1000000000, post := fun x y => y.1 = maskD x.1 }
def c_within_May : Con := { args := [.dat GT], res := [.dat .bool], pre := fun x => x.1.2.length ≤ 100000000, post := fun x y => y.1 = mayT x.1.1 x.1.2 }
end Go.Proofs.YtiofbnlbfmbodaaGreatDoor
end
section
namespace Go.Proofs.YtiofbnlbfmbodaaGreatDoor
open Go Go.Vc Go.Pl Go.Proofs
set_option linter.unusedVariables false
set_option linter.unusedSimpArgs false
set_option maxRecDepth 20000
theorem bit_val {a : Int} (ha : 0 ≤ a ∧ a ≤ 255) {r : Nat} (hr : r ≤ 7) : IntKind.u8.wrap ↑(BitVec.ofInt 8 (a.fdiv (2 ^ min r 8)) &&& BitVec.ofInt 8 1).toNat = a / 2 ^ r % 2 := by
  have key : ∀ a : Fin 256, ∀ r : Fin 8, IntKind.u8.wrap ↑(BitVec.ofInt 8 ((a.val : Int).fdiv (2 ^ min r.val 8)) &&& BitVec.ofInt 8 1).toNat = (a.val : Int) / 2 ^ r.val % 2 := by decide +kernel
  have := key ⟨a.toNat, by omega⟩ ⟨r, by omega⟩
  simpa [Int.toNat_of_nonneg ha.1] using this
abbrev q463 (p0 : q5) := (Int.tdiv (lnZ p0.1) (2 : Int))
abbrev q460 (p0 : q5) (p1 : Int × Bool × Bool × Unit) := (BitVec.toNat (BitVec.ofInt (8 : Nat) (Int.fdiv (List.getD p0.1 (Int.toNat (wrZ (wrZ (q463 p0) + wrZ (Int.tdiv p1.1 (8 : Int))))) (0
  : Int)) ((2 : Int) ^ min (Int.toNat (wrZ ((7 : Int) - Int.tmod p1.1 (8 : Int)))) (8 : Nat))) &&& BitVec.ofInt (8 : Nat) (1 : Int)))
abbrev q458 (p0 : q5) (p1 : Int × Bool × Bool × Unit) := (↑(q460 p0 p1) : Int)
abbrev q444 (p0 : q5) (p1 : Int × Bool × Bool × Unit) := (bif decide (IntKind.wrap IntKind.u8 (q458 p0 p1) = (1 : Int)) then p1.2.1 else false)
abbrev q396 (p0 : q5) (p1 : Int × Bool × Bool × Unit) := ((q444 p0 p1) == false && (q444 p0 p1) == false)
abbrev q445 (p0 : q5) (p1 : Int × Bool × Bool × Unit) := (IntKind.wrap IntKind.u8 (q458 p0 p1) = (1 : Int))
abbrev q397 (p0 : q5) (p1 : Int × Bool × Bool × Unit) := (!decide (q445 p0 p1))
abbrev q395 (p0 : q5) (p1 : Int × Bool × Bool × Unit) := ((q444 p0 p1) == false && (q444 p0 p1) == false && (!decide (q445 p0 p1)) == true)
abbrev q202 (p0 : q5) (p1 : Int × Bool × Bool × Unit) := ((q396 p0 p1) = true -> (q397 p0 p1) = true -> (q395 p0 p1) = true /\ (8 : Int) ≠ q332 /\ True)
abbrev q203 (p0 : q5) (p1 : Int × Bool × Bool × Unit) := ((q396 p0 p1) = true -> (q397 p0 p1) = true -> (q395 p0 p1) = true /\ True)
abbrev q204 (p0 : q5) (p1 : Int × Bool × Bool × Unit) := ((q396 p0 p1) = true -> (q397 p0 p1) = true -> True)
abbrev q398 (p0 : q5) (p1 : Int × Bool × Bool × Unit) := (bif decide (q445 p0 p1) then p1.2.1 else false)
abbrev q205 (p0 : q5) (p1 : Int × Bool × Bool × Unit) := ((q398 p0 p1) == false && (q398 p0 p1) == false && (q397 p0 p1) == true)
abbrev q433 (p0 : q5) (p1 : Int × Bool × Bool × Unit) := (↑(q460 p0 p1) : Int)
abbrev q399 (p0 : q5) (p1 : Int × Bool × Bool × Unit) := (IntKind.wrap IntKind.u8 (q433 p0 p1) = (1 : Int))
abbrev q206 (p0 : q5) (p1 : Int × Bool × Bool × Unit) := (bif bif decide (q399 p0 p1) then p1.2.1 else false then true else bif !decide (q399 p0 p1) then decide (IntKind.wrap IntKind.u8
  (↑(BitVec.toNat (BitVec.ofInt q360 (Int.fdiv (List.getD p0.1 (Int.toNat (wrZ (Int.tdiv p1.1 (8 : Int)))) q332) ((2 : Int) ^ min (Int.toNat (wrZ ((7 : Int) - Int.tmod p1.1 (8 : Int)))) (8 :
  Nat))) &&& BitVec.ofInt q360 q334)) : Int) = q334) else false)
abbrev q207 (p0 : q5) (p1 : Int × Bool × Bool × Unit) := ((q398 p0 p1) == false && (q398 p0 p1) == false)
abbrev q208 (p0 : q5) (p1 : Int × Bool × Bool × Unit) := ((q398 p0 p1) = false -> True)
abbrev q209 (p0 : q5) (p1 : Int × Bool × Bool × Unit) := ((q398 p0 p1) == false)
abbrev q210 (p0 : q5) (p1 : Int × Bool × Bool × Unit) := (bif decide (q399 p0 p1) then p1.2.1 else false)
abbrev q211 (p0 : q5) (p1 : Int × Bool × Bool × Unit) := (!decide (q399 p0 p1))
abbrev q212 (p0 : q5) (p1 : Int × Bool × Bool × Unit) := (IntKind.wrap IntKind.u8 (q433 p0 p1) = q334)
abbrev q213 (p0 : q5) := ((8 : Int) * wrZ (q463 p0))
def t166 : Prop :=
  ∀ (x : q2), (q31 x) -> True -> True /\ (∀ (y : q4), (q41 y) -> y.1 = hasP x.2.1 x.1 -> (y.1 = true -> (q332 <= (lnZ x.2.1) /\ (lnZ x.2.1) <= (lnZ x.1)) /\ List.drop (Int.toNat (lnZ x.2.1))
  x.1 = if hasP x.2.1 x.1 = true then List.drop (List.length x.2.1) x.1 else x.1) /\ (y.1 = false -> x.1 = if hasP x.2.1 x.1 = true then List.drop (List.length x.2.1) x.1 else x.1)) /\ True
theorem e166 : t166 = Con.vc c_stringslite_TrimPrefix GL (mkEnv ty [(181, conSem c_stringslite_HasPrefix)] [] [] [0, 1, 4, 7]) {} Tryz.f166.ntmps Tryz.f166.results.toList (bodyOf Tryz.f166) := by kernel_rfl
theorem k166 : t166 := by
  unfold t166
  delta q2 q31 q4 q41 q332 lnZ wsZ wbZ
  rintro ⟨l, c, _⟩ hx hp
  try dsimp +instances only [dft_int, dft_sl, dft_str]
  simp only [true_and, and_true, eq_self_iff_true, implies_true, reduceCtorEq, false_implies, true_implies, decide_eq_true_eq, decide_eq_false_iff_not, beq_self_eq_true, Bool.not_eq_true', ne_eq, Decidable.not_not, List.nil_append, List.length_singleton, List.length_cons, List.length_nil, Nat.zero_add, Nat.add_zero, Nat.mul_one, and_self, beq_iff_eq, Bool.not_true, Bool.not_false, Bool.not_eq_false', Bool.cond_false_right, Bool.and_eq_true, imp_self, Bool.not_eq_true, Bool.cond_true_left, Bool.or_eq_true]
  rintro ⟨y, _⟩ _ ey
  simp only at ey ⊢
  refine ⟨fun h => ?_, fun h => by rw [← ey, h]; rfl⟩
  have hq := ey.symm.trans h
  rw [← ey, h]
  unfold hasP at hq
  have := congrArg List.length (of_decide_eq_true hq)
  rw [List.length_take] at this
  exact ⟨⟨by omega, by omega⟩, by simp⟩
theorem h166 : c_stringslite_TrimPrefix.ok Tryz.prog GL 166 := con_ok (H := {}) (mkEnv_ok (gl := GL) (l := [(181, conSem c_stringslite_HasPrefix)]) (q := []) (d := []) _ tyOk (by kernel_rfl) ⟨h181.call, trivial⟩ trivial trivial) (by kernel_rfl) (by kernel_rfl) (Eq.mp e166 k166)
def t132 : Prop :=
  ∀ (x : q2), (q31 x) -> True -> True /\ (∀ (y : q5), (wsZ y.1 /\ True) -> (y.1 = if hasP x.2.1 x.1 = true then List.drop (List.length x.2.1) x.1 else x.1) -> y.1 = if hasP x.2.1 x.1 = true
  then List.drop (List.length x.2.1) x.1 else x.1) /\ True
theorem e132 : t132 = Con.vc c_strings_TrimPrefix GL (mkEnv ty [(166, conSem c_stringslite_TrimPrefix)] [] [] [0, 1, 4]) {} Tryz.f132.ntmps Tryz.f132.results.toList (bodyOf Tryz.f132) := by kernel_rfl
theorem k132 : t132 := by
  unfold t132
  delta q2 q31 q5 wsZ
  rintro ⟨l, c, _⟩ hx hp
  try dsimp +instances only [dft_int, dft_sl, dft_str]
  simp only [true_and, and_true, eq_self_iff_true, implies_true, reduceCtorEq, false_implies, true_implies, decide_eq_true_eq, decide_eq_false_iff_not, beq_self_eq_true, Bool.not_eq_true', ne_eq, Decidable.not_not, List.nil_append, List.length_singleton, List.length_cons, List.length_nil, Nat.zero_add, Nat.add_zero, Nat.mul_one, and_self, beq_iff_eq, Bool.not_true, Bool.not_false, Bool.not_eq_false', Bool.cond_false_right, Bool.and_eq_true, imp_self, Bool.not_eq_true, Bool.cond_true_left, Bool.or_eq_true]
theorem h132 : c_strings_TrimPrefix.ok Tryz.prog GL 132 := con_ok (H := {}) (mkEnv_ok (gl := GL) (l := [(166, conSem c_stringslite_TrimPrefix)]) (q := []) (d := []) _ tyOk (by kernel_rfl) ⟨h166.call, trivial⟩ trivial trivial) (by kernel_rfl) (by kernel_rfl) (Eq.mp e132 k132)
def t133 : Prop :=
  ∀ (x : q5), (wsZ x.1 /\ True) -> List.length x.1 <= q95 -> (decide ((lnZ x.1) ≠ q76) = true -> True) /\ (decide ((lnZ x.1) ≠ q76) = true -> (decide ((lnZ x.1) ≠ q76) == true) = true /\
  True) /\ (decide ((lnZ x.1) ≠ q76) = true -> (decide ((lnZ x.1) ≠ q76) == true) = true /\ True) /\ (decide ((lnZ x.1) ≠ q76) = true -> (decide ((lnZ x.1) ≠ q76) == true) = true) /\ ((bif
  decide ((lnZ x.1) ≠ q76) then decide ((lnZ x.1) ≠ (32 : Int)) else false) = true -> false = maskD x.1) /\ ((bif decide ((lnZ x.1) ≠ q76) then decide ((lnZ x.1) ≠ (32 : Int)) else false) =
  false -> q67 ≠ q34 /\ ∃ (I : Int × Bool × Bool × Unit -> Unit -> Prop), ∃ (μ : Int × Bool × Bool × Unit -> Unit -> Nat), (wrZ (q213 x) = wrZ (q213 x) /\ wrZ (q463 x) = wrZ (q463 x) /\
  Value.bool false = Value.bool false /\ x.1 = x.1 /\ I (q34, false, false, ()) ()) /\ ∀ (y : Int × Bool × Bool × Unit) (z : Unit), (wiZ y.1 /\ wbZ y.2.1 /\ wbZ y.2.2.1 /\ True) -> True -> I
  y z -> (decide (y.1 < wrZ (q213 x)) = true -> q76 ≠ q34 /\ (q34 <= wrZ (wrZ (q463 x) + wrZ (Int.tdiv y.1 (8 : Int))) /\ wrZ (wrZ (q463 x) + wrZ (Int.tdiv y.1 (8 : Int))) < (lnZ x.1)) /\ q76
  ≠ q34 /\ q34 <= wrZ ((7 : Int) - Int.tmod y.1 (8 : Int)) /\ (decide (q212 x y) = true -> True) /\ (decide (q212 x y) = true -> (decide (q212 x y) == true) = true) /\ (q208 x y) /\ ((q210 x
  y) = false -> (q209 x y) = true /\ True) /\ (q208 x y) /\ (q204 x y) /\ (q204 x y) /\ (q202 x y) /\ ((q207 x y) = true -> (q211 x y) = true -> (q205 x y) = true /\ (q205 x y) = true /\ (q34
  <= wrZ (Int.tdiv y.1 (8 : Int)) /\ wrZ (Int.tdiv y.1 (8 : Int)) < (lnZ x.1)) /\ True) /\ (q204 x y) /\ (q202 x y) /\ (q203 x y) /\ ((q207 x y) = true -> (q211 x y) = true -> (q205 x y) =
  true /\ (q205 x y) = true /\ q34 <= wrZ ((7 : Int) - Int.tmod y.1 (8 : Int)) /\ True) /\ (q203 x y) /\ (q203 x y) /\ ((q210 x y) = false -> (q207 x y) = true /\ ((q211 x y) = true -> (q205
  x y) = true) /\ True) /\ ((q210 x y) = false -> (q209 x y) = true) /\ ((q206 x y) = true -> false = maskD x.1) /\ ((q206 x y) = false -> (y.2.1 = false -> True) /\ (y.2.1 = false -> (y.2.1
  == false) = true /\ True) /\ (y.2.1 = false -> (y.2.1 == false) = true) /\ wrZ (q213 x) = wrZ (q213 x) /\ wrZ (q463 x) = wrZ (q463 x) /\ Value.bool false = Value.bool false /\ x.1 = x.1 /\
  I (wrZ (y.1 + q62), bif y.2.1 then true else !decide (q212 x y), y.2.2.1, ()) () /\ μ (wrZ (y.1 + q62), bif y.2.1 then true else !decide (q212 x y), y.2.2.1, ()) () < μ y z)) /\ (decide
  (y.1 < wrZ (q213 x)) = false -> true = maskD x.1))
theorem e133 : t133 = Con.vc c_within_mask GL (mkEnvO ty [] [] [] [0, 2, 3, 4, 5, 6, 14, 19, 20, 21, 54] [1000000]) {} Tryz.f133.ntmps Tryz.f133.results.toList (bodyOf Tryz.f133) := by kernel_rfl
theorem k133 : t133 := by
  unfold t133
  delta q5 wsZ q95 lnZ q76 q67 q34 wrZ q213 q463 wiZ wbZ q212 q208 q210 q209 q204 q202 q207 q211 q205 q203 q206 q62 q433 q334 q398 q399 q396 q397 q395 q332 q360 q460 q445 q444 q458
  rintro ⟨s, _⟩ hx hp
  have hb : Bys s := str_bys hx.1
  have hp : s.length ≤ 1000000000 := hp
  clear hx
  try dsimp +instances only [dft_int, dft_sl, dft_str]
  simp only [true_and, and_true, eq_self_iff_true, implies_true, reduceCtorEq, false_implies, true_implies, decide_eq_true_eq, decide_eq_false_iff_not, beq_self_eq_true, Bool.not_eq_true', ne_eq, Decidable.not_not, List.nil_append, List.length_singleton, List.length_cons, List.length_nil, Nat.zero_add, Nat.add_zero, Nat.mul_one, and_self, beq_iff_eq, Bool.not_true, Bool.not_false, Bool.not_eq_false', Bool.cond_false_right, Bool.and_eq_true, imp_self, Bool.not_eq_true, Bool.cond_true_left, Bool.or_eq_true]
  refine ⟨fun h => ?_, fun h => ⟨by decide, ?_⟩⟩
  . rw [maskD, decide_eq_false (by omega)]; rfl
  have hL : s.length = 8 ∨ s.length = 32 := by simp at h; omega
  obtain ⟨n, hn, hL2⟩ : ∃ n : Nat, s.length / 2 = n ∧ s.length = 2 * n := ⟨s.length / 2, rfl, by omega⟩
  have hnb : n = 4 ∨ n = 16 := by omega
  have e1 : IntKind.i64.wrap ((s.length : Int).tdiv 2) = (n : Int) := by rw [Int.tdiv_eq_ediv_of_nonneg (by omega), wrapK _ (by omega) (by omega)]; omega
  have e2 : IntKind.i64.wrap (8 * (n : Int)) = 8 * n := wrapK _ (by omega) (by omega)
  simp only [e1, e2]
  have hM : maskD s = (List.range (8 * n)).all (okM (s.drop n) s) := by rw [maskD, decide_eq_true hL, hn, Bool.true_and]
  rw [hM]
  refine ⟨fun y _ => 0 ≤ y.1 ∧ y.1 ≤ 8 * (n : Int) ∧ (List.range y.1.toNat).all (okM (s.drop n) s) = true ∧ y.2.1 = (decide (0 < y.1) && !nbit (s.drop n) (y.1.toNat - 1)), fun y _ => (8 * (n : Int) - y.1).toNat, ⟨Int.le_refl 0, by simp only; omega, rfl, rfl⟩, ?_⟩
  rintro ⟨i, en, q, _⟩ z _ ⟨i0, i1, ha, he⟩
  simp only at i0 i1 ha he ⊢
  have e3 : IntKind.i64.wrap (i.tdiv 8) = i / 8 := by rw [Int.tdiv_eq_ediv_of_nonneg i0, wrapK _ (by omega) (by omega)]
  have e5 : IntKind.i64.wrap (7 - i.tmod 8) = 7 - i % 8 := by rw [Int.tmod_eq_emod_of_nonneg i0, wrapK _ (by omega) (by omega)]
  have e4 : IntKind.i64.wrap ((n : Int) + i / 8) = n + i / 8 := wrapK _ (by omega) (by omega)
  have e6 : IntKind.i64.wrap (i + 1) = i + 1 := wrapK _ (by omega) (by omega)
  have hr : (7 - i % 8).toNat ≤ 7 := by omega
  have b1 := bit_val (bys_gd hb ((n : Int) + i / 8).toNat) hr
  have b2 := bit_val (bys_gd hb (i / 8).toNat) hr
  simp only [e3, e4, e5, e6, b1, b2]
  have p1 : (s.getD ((n : Int) + i / 8).toNat 0 / 2 ^ (7 - i % 8).toNat % 2 = 1) ↔ nbit (s.drop n) i.toNat = true := by
    have hg : (s.drop n).getD (i.toNat / 8) 0 = s.getD ((n : Int) + i / 8).toNat 0 := by
      rw [List.getD_eq_getElem?_getD, List.getD_eq_getElem?_getD, List.getElem?_drop]
      congr 2
      omega
    rw [nbit, decide_eq_true_eq, hg, show (7 - i % 8).toNat = 7 - i.toNat % 8 by omega]
  have p2 : (s.getD (i / 8).toNat 0 / 2 ^ (7 - i % 8).toNat % 2 = 1) ↔ nbit s i.toNat = true := by
    rw [nbit, decide_eq_true_eq, show (i / 8).toNat = i.toNat / 8 by omega, show (7 - i % 8).toNat = 7 - i.toNat % 8 by omega]
  simp only [p1, p2, Bool.decide_eq_true]
  have hok : okM (s.drop n) s i.toNat = (if nbit (s.drop n) i.toNat then !en else !nbit s i.toNat) := by
    rw [okM, he]
    have : decide (0 < i) = decide (0 < i.toNat) := decide_eq_decide.2 (by omega)
    rw [this]
  have hst : (List.range (i + 1).toNat).all (okM (s.drop n) s) = okM (s.drop n) s i.toNat := by rw [show (i + 1).toNat = i.toNat + 1 by omega, range_step, ha, Bool.true_and]
  have hpos : decide (0 < i + 1) = true := decide_eq_true (by omega)
  have hpr : (i + 1).toNat - 1 = i.toNat := by omega
  rw [hst, hpos, hpr]
  refine ⟨fun hlt => ?_, fun hge => by rw [show 8 * n = i.toNat by omega, ha]⟩
  have hbad : okM (s.drop n) s i.toNat = false → (List.range (8 * n)).all (okM (s.drop n) s) = false := fun h => range_bad (by omega) h
  have q1 : 0 ≤ i / 8 ∧ i / 8 < (s.length : Int) := by omega
  have q2 : 0 ≤ 7 - i % 8 := by omega
  have q3 : 0 ≤ (n : Int) + i / 8 ∧ (n : Int) + i / 8 < (s.length : Int) := by omega
  have q4 : (8 * (n : Int) - (i + 1)).toNat < (8 * (n : Int) - i).toNat := by omega
  have q5 : 0 ≤ i + 1 ∧ i + 1 ≤ 8 * (n : Int) := by omega
  rw [hok] at hbad ⊢
  clear hok hst hpos hpr p1 p2 b1 b2 e1 e2 e3 e4 e5 e6 ha he
  generalize nbit (s.drop n) i.toNat = M at *
  generalize nbit s i.toNat = B at *
  generalize (List.range (8 * n)).all (okM (s.drop n) s) = A at *
  cases M <;> cases B <;> cases en <;> simp [q1, q2, q3, q4, q5] at hbad ⊢ <;> first | exact hbad | exact hbad.symm | exact ⟨by omega, hbad⟩ | omega
theorem h133 : c_within_mask.ok Tryz.prog GL 133 := conO_ok (H := {}) (mkEnvO_ok (gl := GL) (l := []) (q := []) (d := []) _ [1000000] tyOk (by kernel_rfl) trivial trivial trivial) (by kernel_rfl) (by kernel_rfl) (Eq.mp e133 k133)
def t94 : Prop :=
  ∀ (x : q10), (Kd.wf q89 x.1 /\ True) -> List.length x.1.2 <= q149 -> List.length [SV.dat q90 x.1.1, SV.dat Kd.str x.1.2] <= q61 /\ (decide (x.1.1 = q62) = true -> List.length x.1.2 <= q95
  /\ (∀ (y : q4), (q41 y) -> y.1 = emailD x.1.2 -> (y.1 = false -> True) /\ (y.1 = false -> (y.1 == false) = true /\ True) /\ (y.1 = false -> (y.1 == false) = true /\ True /\ (∀ (y : q5),
  (wsZ y.1 /\ True) -> (y.1 = if hasP q190 x.1.2 = true then List.drop (List.length q190) x.1.2 else x.1.2) -> List.length y.1 <= q95 /\ (∀ (y_1 : q4), (q41 y_1) -> y_1.1 = dnsD y.1 -> y_1.1
  = mayT x.1.1 x.1.2) /\ True) /\ True) /\ (y.1 = !false -> true = mayT x.1.1 x.1.2)) /\ True) /\ (decide (x.1.1 = q62) = false -> (decide (x.1.1 = q67) = true -> List.length x.1.2 <= q95 /\
  (∀ (y : q4), (q41 y) -> y.1 = dnsD x.1.2 -> y.1 = mayT x.1.1 x.1.2) /\ True) /\ (decide (x.1.1 = q67) = false -> (decide (x.1.1 = q64) = true -> List.length x.1.2 <= q149 /\ (∀ (y : q4),
  (q41 y) -> y.1 = mayG q64 x.1.2 -> y.1 = mayT x.1.1 x.1.2) /\ True) /\ (decide (x.1.1 = q64) = false -> (decide (x.1.1 = q415) = true -> List.length x.1.2 <= q95 /\ (∀ (y : q4), (q41 y) ->
  y.1 = maskD x.1.2 -> y.1 = mayT x.1.1 x.1.2) /\ True) /\ (decide (x.1.1 = q415) = false -> false = mayT x.1.1 x.1.2))))
theorem e94 : t94 = Con.vc c_within_May GL (mkEnvO ty [(130, conSem c_host_Email), (131, conSem c_host_DNS), (132, conSem c_strings_TrimPrefix), (54, conSem c_host_May), (133, conSem c_within_mask)] [] [] [0, 1, 2, 4, 5, 16, 21, 27] [1000000,3000001]) {} Tryz.f94.ntmps Tryz.f94.results.toList (bodyOf Tryz.f94) := by kernel_rfl
theorem k94 : t94 := by
  unfold t94
  delta q10 q89 q149 q90 q61 q62 q95 q4 q41 q5 wsZ q190 q67 q64 q415 q425 wbZ
  rintro ⟨⟨k, b⟩, _⟩ hx hp
  have hp : b.length ≤ 100000000 := hp
  clear hx
  try dsimp +instances only [dft_int, dft_sl, dft_str]
  simp only [true_and, and_true, eq_self_iff_true, implies_true, reduceCtorEq, false_implies, true_implies, decide_eq_true_eq, decide_eq_false_iff_not, beq_self_eq_true, Bool.not_eq_true', ne_eq, Decidable.not_not, List.nil_append, List.length_singleton, List.length_cons, List.length_nil, Nat.zero_add, Nat.add_zero, Nat.mul_one, and_self, beq_iff_eq, Bool.not_true, Bool.not_false, Bool.not_eq_false', Bool.cond_false_right, Bool.and_eq_true, imp_self, Bool.not_eq_true, Bool.cond_true_left, Bool.or_eq_true]
  have b46 : bs { data := #[46] } = [46] := rfl
  rw [b46]
  refine ⟨by decide, fun h => ⟨by omega, ?_⟩, fun h1 => ⟨fun h => ⟨by omega, ?_⟩, fun h2 => ⟨fun h => ⟨by omega, ?_⟩, fun h4 => ⟨fun h => ⟨by omega, ?_⟩, fun h7 => ?_⟩⟩⟩⟩
  . rintro ⟨y, _⟩ _ ey
    simp only at ey ⊢
    subst h
    have hd : hasP [46] b = true → emailD b = false := mail_dot
    refine ⟨fun hy => ⟨hy, ?_⟩, fun hy => ?_⟩
    . rintro ⟨z, _⟩ _ ez
      simp only at ez ⊢
      refine ⟨by rw [ez]; split; (rw [List.length_drop]; omega); omega, ?_⟩
      rintro ⟨w, _⟩ _ ew
      simp only at ew ⊢
      rw [ew, ez, mayT, if_pos rfl]
      cases hq : hasP [46] b
      . simp [← ey, hy]
      . simp
    . have he : emailD b = true := by rw [← ey]; exact hy
      rw [mayT, if_pos rfl]
      cases hq : hasP [46] b
      . simp [he]
      . rw [hd hq] at he; cases he
  . rintro ⟨y, _⟩ _ ey
    simp only at ey ⊢
    subst h
    rw [ey]; rfl
  . rintro ⟨y, _⟩ _ ey
    simp only at ey ⊢
    subst h
    rw [ey]; rfl
  . rintro ⟨y, _⟩ _ ey
    simp only at ey ⊢
    subst h
    rw [ey]; rfl
  . rw [mayT, if_neg h1, if_neg h2, if_neg h4, if_neg h7]
theorem h94 : c_within_May.ok Tryz.prog GL 94 := conO_ok (H := {}) (mkEnvO_ok (gl := GL) (l := [(130, conSem c_host_Email), (131, conSem c_host_DNS), (132, conSem c_strings_TrimPrefix), (54, conSem c_host_May), (133, conSem c_within_mask)]) (q := []) (d := []) _ [1000000,3000001] tyOk (by kernel_rfl) ⟨h130.call, h131.call, h132.call, h54.call, h133.call, trivial⟩ trivial trivial) (by kernel_rfl) (by kernel_rfl) (Eq.mp e94 k94)
end Go.Proofs.YtiofbnlbfmbodaaGreatDoor
end
section
namespace Go.Proofs.YtiofbnlbfmbodaaGreatDoor
open Go Go.Vc Go.Pl Go.Proofs
end Go.Proofs.YtiofbnlbfmbodaaGreatDoor
end
section
namespace Go.Proofs.YtiofbnlbfmbodaaGreatDoor
open Go Go.Vc Go.Pl Go.Proofs
set_option linter.unusedVariables false
set_option linter.unusedSimpArgs false
end Go.Proofs.YtiofbnlbfmbodaaGreatDoor
end
section
namespace Go.Proofs.YtiofbnlbfmbodaaGreatDoor
open Go Go.Vc Go.Pl Go.Proofs
end Go.Proofs.YtiofbnlbfmbodaaGreatDoor
end
section
namespace Go.Proofs.YtiofbnlbfmbodaaGreatDoor
open Go Go.Vc Go.Pl Go.Proofs
set_option linter.unusedVariables false
set_option linter.unusedSimpArgs false
set_option maxRecDepth 20000
end Go.Proofs.YtiofbnlbfmbodaaGreatDoor
end
