/- Texts of a verified walk, led together: Within2A, Within2W, R14A, R14W, Law14aA, Law14aW, Law14cA, Law14cW, Glok12A, Glok12W. -/
import Derived.Test.YtgnlcpoeepfdoaaGreatDoorZW09
import Derived.Test.YtgnlcpoeepfdoaaGreatDoorZV15
import Derived.Test.YtgnlcpoeepfdoaaGreatDoorRows
set_option linter.unusedVariables false
set_option linter.unusedSimpArgs false
section
namespace Go.Proofs.YtgnlcpoeepfdoaaGreatDoor
open Go Go.Vc Go.Pl Go.Proofs
def c_stringslite_TrimPrefix : Con := { args := [.dat .str, .dat .str], res := [.dat .str], pre := fun _ => True, post := fun x y => y.1 = if hasP x.2.1 x.1 then x.1.drop x.2.1.length else x.1 }
def c_strings_TrimPrefix : Con := { args := [.dat .str, .dat .str], res := [.dat .str], pre := fun _ => True, post := fun x y => y.1 = if hasP x.2.1 x.1 then x.1.drop x.2.1.length else x.1 }
def c_within_mask : Con := { args := [.dat .str], res := [.dat .bool], pre := fun x => x.1.length ≤ 1000000000, post := fun x y => y.1 = maskD x.1 }
def c_within_tree_email : Con := { args := [.dat GT, .dat .str], res := [.dat .bool], pre := fun x => x.1.2.length ≤ 100000000 ∧ x.2.1.length ≤ 100000000, post := fun x y => y.1 = mailT x.1.2 x.2.1 }
def c_within_tree_dns : Con := { args := [.dat GT, .dat .str], res := [.dat .bool], pre := fun x => x.1.2.length ≤ 100000000 ∧ x.2.1.length ≤ 100000000, post := fun x y => y.1 = belowD x.2.1 x.1.2 }
def c_within_tree_name : Con := { args := [.dat GT, .dat .str], res := [.dat .bool], pre := fun x => x.1.2.length ≤ 100000000 ∧ x.2.1.length ≤ 100000000 ∧ namedD x.1.2 = true ∧ namedD x.2.1 = true, post := fun x y => y.1 = beginsD (guessD x.2.1) (guessD x.1.2) }
def c_within_tree_ip : Con := { args := [.dat GT, .dat .str], res := [.dat .bool], pre := fun x => x.1.2.length ≤ 100000000 ∧ x.2.1.length ≤ 100000000 ∧ maskD x.1.2 = true, post := fun x y => y.1 = ipT x.1.2 x.2.1 }
def asksN (k : Int) : Nat := if k = 1 then 62 + 1 else if k = 2 then 63 + 1 else if k = 4 then 64 + 1 else if k = 7 then 65 + 1 else 0
def c_within_asks : Con := { args := [.dat I64], res := [.dat .fn], pre := fun _ => True, post := fun x y => y.1 = asksN x.1 }
def c_within_May : Con := { args := [.dat GT], res := [.dat .bool], pre := fun x => x.1.2.length ≤ 100000000, post := fun x y => y.1 = mayT x.1.1 x.1.2 }
def c_within_All : Con := { args := [.dat GT, .dat GT], res := [.dat .bool], pre := fun x => x.1.2.length ≤ 100000000 ∧ x.2.1.2.length ≤ 100000000, post := fun x y => y.1 = allT x.1 x.2.1 }
end Go.Proofs.YtgnlcpoeepfdoaaGreatDoor
end
section
namespace Go.Proofs.YtgnlcpoeepfdoaaGreatDoor
open Go Go.Vc Go.Pl Go.Proofs
set_option linter.unusedVariables false
set_option linter.unusedSimpArgs false
set_option maxRecDepth 20000
theorem and8 {a b : Int} (ha : 0 ≤ a ∧ a ≤ 255) (hb : 0 ≤ b ∧ b ≤ 255) : IntKind.u8.wrap ↑(BitVec.ofInt 8 a &&& BitVec.ofInt 8 b).toNat = ((a.toNat &&& b.toNat : Nat) : Int) := by
  obtain ⟨n, rfl⟩ : ∃ n : Nat, a = n := ⟨a.toNat, by omega⟩
  obtain ⟨m, rfl⟩ : ∃ n : Nat, b = n := ⟨b.toNat, by omega⟩
  rw [wrap_u8m, BitVec.toNat_and, BitVec.ofInt_natCast, BitVec.ofInt_natCast, BitVec.toNat_ofNat, BitVec.toNat_ofNat, Nat.mod_eq_of_lt (by omega), Nat.mod_eq_of_lt (by omega), Int.toNat_natCast, Int.toNat_natCast]
  have : n &&& m < 2 ^ 8 := Nat.and_lt_two_pow n (show m < 2 ^ 8 by omega)
  omega
theorem bit_val {a : Int} (ha : 0 ≤ a ∧ a ≤ 255) {r : Nat} (hr : r ≤ 7) : IntKind.u8.wrap ↑(BitVec.ofInt 8 (a.fdiv (2 ^ min r 8)) &&& BitVec.ofInt 8 1).toNat = a / 2 ^ r % 2 := by
  have key : ∀ a : Fin 256, ∀ r : Fin 8, IntKind.u8.wrap ↑(BitVec.ofInt 8 ((a.val : Int).fdiv (2 ^ min r.val 8)) &&& BitVec.ofInt 8 1).toNat = (a.val : Int) / 2 ^ r.val % 2 := by decide +kernel
  have := key ⟨a.toNat, by omega⟩ ⟨r, by omega⟩
  simpa [Int.toNat_of_nonneg ha.1] using this
abbrev q19 := ((Int × List Int) × List Int × Unit)
abbrev q317 (p0 : q6) := (Int.tdiv (lnZ p0.1) (2 : Int))
abbrev q314 (p0 : q6) (p1 : Int × Bool × Bool × Unit) := (BitVec.toNat (BitVec.ofInt (8 : Nat) (Int.fdiv (List.getD p0.1 (Int.toNat (wrZ (wrZ (q317 p0) + wrZ (Int.tdiv p1.1 (8 : Int))))) (0
  : Int)) ((2 : Int) ^ min (Int.toNat (wrZ ((7 : Int) - Int.tmod p1.1 (8 : Int)))) (8 : Nat))) &&& BitVec.ofInt (8 : Nat) (1 : Int)))
abbrev q311 (p0 : q6) (p1 : Int × Bool × Bool × Unit) := (↑(q314 p0 p1) : Int)
abbrev q302 (p0 : q6) (p1 : Int × Bool × Bool × Unit) := (bif decide (IntKind.wrap IntKind.u8 (q311 p0 p1) = (1 : Int)) then p1.2.1 else false)
abbrev q281 (p0 : q6) (p1 : Int × Bool × Bool × Unit) := ((q302 p0 p1) == false && (q302 p0 p1) == false)
abbrev q303 (p0 : q6) (p1 : Int × Bool × Bool × Unit) := (IntKind.wrap IntKind.u8 (q311 p0 p1) = (1 : Int))
abbrev q282 (p0 : q6) (p1 : Int × Bool × Bool × Unit) := (!decide (q303 p0 p1))
abbrev q280 (p0 : q6) (p1 : Int × Bool × Bool × Unit) := ((q302 p0 p1) == false && (q302 p0 p1) == false && (!decide (q303 p0 p1)) == true)
abbrev q198 (p0 : q6) (p1 : Int × Bool × Bool × Unit) := ((q281 p0 p1) = true -> (q282 p0 p1) = true -> (q280 p0 p1) = true /\ q312 ≠ q228 /\ True)
abbrev q199 (p0 : q6) (p1 : Int × Bool × Bool × Unit) := ((q281 p0 p1) = true -> (q282 p0 p1) = true -> (q280 p0 p1) = true /\ True)
abbrev q200 (p0 : q6) (p1 : Int × Bool × Bool × Unit) := ((q281 p0 p1) = true -> (q282 p0 p1) = true -> True)
abbrev q283 (p0 : q6) (p1 : Int × Bool × Bool × Unit) := (bif decide (q303 p0 p1) then p1.2.1 else false)
abbrev q201 (p0 : q6) (p1 : Int × Bool × Bool × Unit) := ((q283 p0 p1) == false && (q283 p0 p1) == false && (q282 p0 p1) == true)
abbrev q298 (p0 : q6) (p1 : Int × Bool × Bool × Unit) := (↑(q314 p0 p1) : Int)
abbrev q284 (p0 : q6) (p1 : Int × Bool × Bool × Unit) := (IntKind.wrap IntKind.u8 (q298 p0 p1) = (1 : Int))
abbrev q202 (p0 : q6) (p1 : Int × Bool × Bool × Unit) := (bif bif decide (q284 p0 p1) then p1.2.1 else false then true else bif !decide (q284 p0 p1) then decide (IntKind.wrap IntKind.u8
  (↑(BitVec.toNat (BitVec.ofInt q287 (Int.fdiv (List.getD p0.1 (Int.toNat (wrZ (Int.tdiv p1.1 q312))) q228) ((2 : Int) ^ min (Int.toNat (wrZ ((7 : Int) - Int.tmod p1.1 (8 : Int)))) (8 :
  Nat))) &&& BitVec.ofInt q287 q253)) : Int) = q253) else false)
abbrev q203 (p0 : q6) (p1 : Int × Bool × Bool × Unit) := ((q283 p0 p1) == false && (q283 p0 p1) == false)
abbrev q204 (p0 : q6) (p1 : Int × Bool × Bool × Unit) := ((q283 p0 p1) = false -> True)
abbrev q205 (p0 : q6) (p1 : Int × Bool × Bool × Unit) := ((q283 p0 p1) == false)
abbrev q206 (p0 : q6) (p1 : Int × Bool × Bool × Unit) := (bif decide (q284 p0 p1) then p1.2.1 else false)
abbrev q207 (p0 : q6) (p1 : Int × Bool × Bool × Unit) := (!decide (q284 p0 p1))
abbrev q208 (p0 : q6) (p1 : Int × Bool × Bool × Unit) := (IntKind.wrap IntKind.u8 (q298 p0 p1) = q253)
abbrev q209 (p0 : q6) := (q312 * wrZ (q317 p0))
abbrev q210 (p0 : q19) := (cutD q276 p0.2.1)
abbrev q211 (p0 : q19) := (cutD q276 p0.1.2)
abbrev q212 (p0 : q19) := (Kd.wf q262 p0.1 /\ wsZ p0.2.1 /\ True)
abbrev q213 (p0 : q19) (p1 : q10) := (IntKind.wrap IntKind.u8 (↑(BitVec.toNat (BitVec.ofInt q287 (List.getD p0.2.1 (q232 p1) q228) &&& BitVec.ofInt q287 (List.getD p0.1.2 (Int.toNat (wrZ
  (wrZ (Int.tdiv (lnZ p0.1.2) q241) + p1.1))) q228))) : Int) ≠ List.getD p0.1.2 (q232 p1) q228)
abbrev q214 (p0 : q19) := (Int.tdiv (lnZ p0.1.2) q241)
abbrev q285 := (wrZ (wrZ (q295 + (1 : Int)) + (1 : Int)) + (1 : Int))
abbrev q215 := (wrZ (wrZ q285 + q253) < (↑(4 : Nat) : Int))
abbrev q216 := (wrZ q285 < (↑(4 : Nat) : Int))
abbrev q217 := (wrZ q285 + q253)
abbrev q218 := (wrZ (wrZ (q295 + (1 : Int)) + (1 : Int)) + q253)
abbrev q254 := (q295 + (1 : Int))
abbrev q219 := (wrZ q254 + q253)
abbrev q220 := (↑(4 : Nat) : Int)
abbrev q255 := (100000000 : Nat)
abbrev q221 (p0 : (Int × List Int) × (Int × List Int) × Unit) (p1 : q6) := ((True /\ (∀ (y : Nat × Unit), (Kd.wf Kd.fn y.1 /\ True) -> y.1 = asksN p0.1.1 -> ((y.1 = (63 : Nat) \/ y.1 = (64
  : Nat) \/ y.1 = (65 : Nat) \/ y.1 = (66 : Nat) \/ False) /\ (y.1 = (63 : Nat) -> (List.length p0.1.2 <= q255 /\ List.length p1.1 <= q255) /\ (∀ (y : q4), (wbZ y.1 /\ True) -> y.1 = mailT
  p0.1.2 p1.1 -> y.1 = allT p0.1 p0.2.1) /\ True) /\ (y.1 = (64 : Nat) -> (List.length p0.1.2 <= q255 /\ List.length p1.1 <= q255) /\ (∀ (y : q4), (wbZ y.1 /\ True) -> y.1 = belowD p1.1
  p0.1.2 -> y.1 = allT p0.1 p0.2.1) /\ True) /\ (y.1 = (65 : Nat) -> (List.length p0.1.2 <= q255 /\ List.length p1.1 <= q255 /\ namedD p0.1.2 = true /\ namedD p1.1 = true) /\ (∀ (y : q4),
  (wbZ y.1 /\ True) -> y.1 = beginsD (guessD p1.1) (guessD p0.1.2) -> y.1 = allT p0.1 p0.2.1) /\ True) /\ (y.1 = (66 : Nat) -> (List.length p0.1.2 <= q255 /\ List.length p1.1 <= q255 /\ maskD
  p0.1.2 = true) /\ (∀ (y : q4), (wbZ y.1 /\ True) -> y.1 = ipT p0.1.2 p1.1 -> y.1 = allT p0.1 p0.2.1) /\ True) /\ True) /\ True) /\ True) /\ True)
def t57 : Prop :=
  ∀ (x : q2), (q21 x) -> True -> True /\ (∀ (y : q4), (q34 y) -> y.1 = hasP x.2.1 x.1 -> (y.1 = true -> (q228 <= (lnZ x.2.1) /\ (lnZ x.2.1) <= (lnZ x.1)) /\ List.drop (Int.toNat (lnZ x.2.1))
  x.1 = if hasP x.2.1 x.1 = true then List.drop (List.length x.2.1) x.1 else x.1) /\ (y.1 = false -> x.1 = if hasP x.2.1 x.1 = true then List.drop (List.length x.2.1) x.1 else x.1)) /\ True
theorem e57 : t57 = Con.vc c_stringslite_TrimPrefix GL (mkEnv ty [(89, conSem c_stringslite_HasPrefix)] [] [] [0, 1, 4, 7]) {} Tryz.f57.ntmps Tryz.f57.results.toList (bodyOf Tryz.f57) := by kernel_rfl
theorem k57 : t57 := by
  unfold t57
  delta q2 q21 q4 q34 q228 lnZ wsZ wbZ
  rintro ⟨l, c, _⟩ hx hp
  try dsimp +instances only [dft_int, dft_sl, dft_str]
  simp only [true_and, and_true, eq_self_iff_true, implies_true, reduceCtorEq, false_implies, true_implies, decide_eq_true_eq, decide_eq_false_iff_not, beq_self_eq_true, Bool.not_eq_true', ne_eq, Decidable.not_not, List.nil_append, List.length_singleton, List.length_cons, List.length_nil, Nat.zero_add, Nat.add_zero, Nat.mul_one, and_self, beq_iff_eq, Bool.not_true, Bool.not_false, Bool.not_eq_false', Bool.cond_false_right, Bool.and_eq_true, imp_self, Bool.not_eq_true, Bool.cond_true_left, Bool.or_eq_true]
  rintro ⟨y, _⟩ _ ey
  simp only at ey ⊢
  refine ⟨fun h => ?_, fun h => by rw [← ey, h]; rfl⟩
  have hq := ey.symm.trans h
  rw [← ey, h]
  unfold hasP at hq
  have := congrArg List.length (of_decide_eq_true hq)
  rw [List.length_take] at this
  exact ⟨⟨by omega, by omega⟩, by simp⟩
theorem h57 : c_stringslite_TrimPrefix.ok Tryz.prog GL 57 := con_ok (H := {}) (mkEnv_ok (gl := GL) (l := [(89, conSem c_stringslite_HasPrefix)]) (q := []) (d := []) _ tyOk (by kernel_rfl) ⟨h89.call, trivial⟩ trivial trivial) (by kernel_rfl) (by kernel_rfl) (Eq.mp e57 k57)
def t33 : Prop :=
  ∀ (x : q2), (q21 x) -> True -> True /\ (∀ (y : q6), (q55 y) -> (y.1 = if hasP x.2.1 x.1 = true then List.drop (List.length x.2.1) x.1 else x.1) -> y.1 = if hasP x.2.1 x.1 = true then
  List.drop (List.length x.2.1) x.1 else x.1) /\ True
theorem e33 : t33 = Con.vc c_strings_TrimPrefix GL (mkEnv ty [(57, conSem c_stringslite_TrimPrefix)] [] [] [0, 1, 4]) {} Tryz.f33.ntmps Tryz.f33.results.toList (bodyOf Tryz.f33) := by kernel_rfl
theorem k33 : t33 := by
  unfold t33
  delta q2 q21 q6 q55 wsZ
  rintro ⟨l, c, _⟩ hx hp
  try dsimp +instances only [dft_int, dft_sl, dft_str]
  simp only [true_and, and_true, eq_self_iff_true, implies_true, reduceCtorEq, false_implies, true_implies, decide_eq_true_eq, decide_eq_false_iff_not, beq_self_eq_true, Bool.not_eq_true', ne_eq, Decidable.not_not, List.nil_append, List.length_singleton, List.length_cons, List.length_nil, Nat.zero_add, Nat.add_zero, Nat.mul_one, and_self, beq_iff_eq, Bool.not_true, Bool.not_false, Bool.not_eq_false', Bool.cond_false_right, Bool.and_eq_true, imp_self, Bool.not_eq_true, Bool.cond_true_left, Bool.or_eq_true]
theorem h33 : c_strings_TrimPrefix.ok Tryz.prog GL 33 := con_ok (H := {}) (mkEnv_ok (gl := GL) (l := [(57, conSem c_stringslite_TrimPrefix)]) (q := []) (d := []) _ tyOk (by kernel_rfl) ⟨h57.call, trivial⟩ trivial trivial) (by kernel_rfl) (by kernel_rfl) (Eq.mp e33 k33)
def t34 : Prop :=
  ∀ (x : q6), (q55 x) -> List.length x.1 <= q88 -> (decide ((lnZ x.1) ≠ q312) = true -> True) /\ (decide ((lnZ x.1) ≠ q312) = true -> (decide ((lnZ x.1) ≠ q312) == true) = true /\ True) /\
  (decide ((lnZ x.1) ≠ q312) = true -> (decide ((lnZ x.1) ≠ q312) == true) = true /\ True) /\ (decide ((lnZ x.1) ≠ q312) = true -> (decide ((lnZ x.1) ≠ q312) == true) = true) /\ ((bif decide
  ((lnZ x.1) ≠ q312) then decide ((lnZ x.1) ≠ (32 : Int)) else false) = true -> false = maskD x.1) /\ ((bif decide ((lnZ x.1) ≠ q312) then decide ((lnZ x.1) ≠ (32 : Int)) else false) = false
  -> q60 ≠ q23 /\ ∃ (I : Int × Bool × Bool × Unit -> Unit -> Prop), ∃ (μ : Int × Bool × Bool × Unit -> Unit -> Nat), (wrZ (q209 x) = wrZ (q209 x) /\ wrZ (q317 x) = wrZ (q317 x) /\ Value.bool
  false = Value.bool false /\ x.1 = x.1 /\ I (q23, false, false, ()) ()) /\ ∀ (y : Int × Bool × Bool × Unit) (z : Unit), (wiZ y.1 /\ wbZ y.2.1 /\ wbZ y.2.2.1 /\ True) -> True -> I y z ->
  (decide (y.1 < wrZ (q209 x)) = true -> q312 ≠ q23 /\ (q23 <= wrZ (wrZ (q317 x) + wrZ (Int.tdiv y.1 (8 : Int))) /\ wrZ (wrZ (q317 x) + wrZ (Int.tdiv y.1 (8 : Int))) < (lnZ x.1)) /\ q312 ≠
  q23 /\ q23 <= wrZ ((7 : Int) - Int.tmod y.1 q312) /\ (decide (q208 x y) = true -> True) /\ (decide (q208 x y) = true -> (decide (q208 x y) == true) = true) /\ (q204 x y) /\ ((q206 x y) =
  false -> (q205 x y) = true /\ True) /\ (q204 x y) /\ (q200 x y) /\ (q200 x y) /\ (q198 x y) /\ ((q203 x y) = true -> (q207 x y) = true -> (q201 x y) = true /\ (q201 x y) = true /\ (q23 <=
  wrZ (Int.tdiv y.1 q312) /\ wrZ (Int.tdiv y.1 q312) < (lnZ x.1)) /\ True) /\ (q200 x y) /\ (q198 x y) /\ (q199 x y) /\ ((q203 x y) = true -> (q207 x y) = true -> (q201 x y) = true /\ (q201 x
  y) = true /\ q23 <= wrZ ((7 : Int) - Int.tmod y.1 q312) /\ True) /\ (q199 x y) /\ (q199 x y) /\ ((q206 x y) = false -> (q203 x y) = true /\ ((q207 x y) = true -> (q201 x y) = true) /\ True)
  /\ ((q206 x y) = false -> (q205 x y) = true) /\ ((q202 x y) = true -> false = maskD x.1) /\ ((q202 x y) = false -> (y.2.1 = false -> True) /\ (y.2.1 = false -> (y.2.1 == false) = true /\
  True) /\ (y.2.1 = false -> (y.2.1 == false) = true) /\ wrZ (q209 x) = wrZ (q209 x) /\ wrZ (q317 x) = wrZ (q317 x) /\ Value.bool false = Value.bool false /\ x.1 = x.1 /\ I (wrZ (y.1 + q58),
  bif y.2.1 then true else !decide (q208 x y), y.2.2.1, ()) () /\ μ (wrZ (y.1 + q58), bif y.2.1 then true else !decide (q208 x y), y.2.2.1, ()) () < μ y z)) /\ (decide (y.1 < wrZ (q209 x)) =
  false -> true = maskD x.1))
theorem e34 : t34 = Con.vc c_within_mask GL (mkEnvO ty [] [] [] [0, 2, 3, 4, 5, 6, 14, 19, 20, 21, 54] [1000000]) {} Tryz.f34.ntmps Tryz.f34.results.toList (bodyOf Tryz.f34) := by kernel_rfl
theorem k34 : t34 := by
  unfold t34
  delta q6 q55 q88 lnZ q312 q60 q23 wrZ q209 q317 wiZ wbZ q208 q204 q206 q205 q200 q198 q203 q207 q201 q199 q202 q58 wsZ q298 q253 q283 q284 q281 q282 q280 q228 q287 q314 q303 q302 q311
  rintro ⟨s, _⟩ hx hp
  have hb : Bys s := str_bys hx.1
  have hp : s.length ≤ 1000000000 := hp
  clear hx
  try dsimp +instances only [dft_int, dft_sl, dft_str]
  simp only [true_and, and_true, eq_self_iff_true, implies_true, reduceCtorEq, false_implies, true_implies, decide_eq_true_eq, decide_eq_false_iff_not, beq_self_eq_true, Bool.not_eq_true', ne_eq, Decidable.not_not, List.nil_append, List.length_singleton, List.length_cons, List.length_nil, Nat.zero_add, Nat.add_zero, Nat.mul_one, and_self, beq_iff_eq, Bool.not_true, Bool.not_false, Bool.not_eq_false', Bool.cond_false_right, Bool.and_eq_true, imp_self, Bool.not_eq_true, Bool.cond_true_left, Bool.or_eq_true]
  refine ⟨fun h => ?_, fun h => ⟨by decide, ?_⟩⟩
  . rw [maskD, decide_eq_false (by omega)]; rfl
  have hL : s.length = 8 ∨ s.length = 32 := by simp at h; omega
  obtain ⟨n, hn, hL2⟩ : ∃ n : Nat, s.length / 2 = n ∧ s.length = 2 * n := ⟨s.length / 2, rfl, by omega⟩
  have hnb : n = 4 ∨ n = 16 := by omega
  have e1 : IntKind.i64.wrap ((s.length : Int).tdiv 2) = (n : Int) := by rw [Int.tdiv_eq_ediv_of_nonneg (by omega), wrapK _ (by omega) (by omega)]; omega
  have e2 : IntKind.i64.wrap (8 * (n : Int)) = 8 * n := wrapK _ (by omega) (by omega)
  simp only [e1, e2]
  have hM : maskD s = (List.range (8 * n)).all (okM (s.drop n) s) := by rw [maskD, decide_eq_true hL, hn, Bool.true_and]
  rw [hM]
  refine ⟨fun y _ => 0 ≤ y.1 ∧ y.1 ≤ 8 * (n : Int) ∧ (List.range y.1.toNat).all (okM (s.drop n) s) = true ∧ y.2.1 = (decide (0 < y.1) && !nbit (s.drop n) (y.1.toNat - 1)), fun y _ => (8 * (n : Int) - y.1).toNat, ⟨Int.le_refl 0, by simp only; omega, rfl, rfl⟩, ?_⟩
  rintro ⟨i, en, q, _⟩ z _ ⟨i0, i1, ha, he⟩
  simp only at i0 i1 ha he ⊢
  have e3 : IntKind.i64.wrap (i.tdiv 8) = i / 8 := by rw [Int.tdiv_eq_ediv_of_nonneg i0, wrapK _ (by omega) (by omega)]
  have e5 : IntKind.i64.wrap (7 - i.tmod 8) = 7 - i % 8 := by rw [Int.tmod_eq_emod_of_nonneg i0, wrapK _ (by omega) (by omega)]
  have e4 : IntKind.i64.wrap ((n : Int) + i / 8) = n + i / 8 := wrapK _ (by omega) (by omega)
  have e6 : IntKind.i64.wrap (i + 1) = i + 1 := wrapK _ (by omega) (by omega)
  have hr : (7 - i % 8).toNat ≤ 7 := by omega
  have b1 := bit_val (bys_gd hb ((n : Int) + i / 8).toNat) hr
  have b2 := bit_val (bys_gd hb (i / 8).toNat) hr
  simp only [e3, e4, e5, e6, b1, b2]
  have p1 : (s.getD ((n : Int) + i / 8).toNat 0 / 2 ^ (7 - i % 8).toNat % 2 = 1) ↔ nbit (s.drop n) i.toNat = true := by
    have hg : (s.drop n).getD (i.toNat / 8) 0 = s.getD ((n : Int) + i / 8).toNat 0 := by
      rw [List.getD_eq_getElem?_getD, List.getD_eq_getElem?_getD, List.getElem?_drop]
      congr 2
      omega
    rw [nbit, decide_eq_true_eq, hg, show (7 - i % 8).toNat = 7 - i.toNat % 8 by omega]
  have p2 : (s.getD (i / 8).toNat 0 / 2 ^ (7 - i % 8).toNat % 2 = 1) ↔ nbit s i.toNat = true := by
    rw [nbit, decide_eq_true_eq, show (i / 8).toNat = i.toNat / 8 by omega, show (7 - i % 8).toNat = 7 - i.toNat % 8 by omega]
  simp only [p1, p2, Bool.decide_eq_true]
  have hok : okM (s.drop n) s i.toNat = (if nbit (s.drop n) i.toNat then !en else !nbit s i.toNat) := by
    rw [okM, he]
    have : decide (0 < i) = decide (0 < i.toNat) := decide_eq_decide.2 (by omega)
    rw [this]
  have hst : (List.range (i + 1).toNat).all (okM (s.drop n) s) = okM (s.drop n) s i.toNat := by rw [show (i + 1).toNat = i.toNat + 1 by omega, range_step, ha, Bool.true_and]
  have hpos : decide (0 < i + 1) = true := decide_eq_true (by omega)
  have hpr : (i + 1).toNat - 1 = i.toNat := by omega
  rw [hst, hpos, hpr]
  refine ⟨fun hlt => ?_, fun hge => by rw [show 8 * n = i.toNat by omega, ha]⟩
  have hbad : okM (s.drop n) s i.toNat = false → (List.range (8 * n)).all (okM (s.drop n) s) = false := fun h => range_bad (by omega) h
  have q1 : 0 ≤ i / 8 ∧ i / 8 < (s.length : Int) := by omega
  have q2 : 0 ≤ 7 - i % 8 := by omega
  have q3 : 0 ≤ (n : Int) + i / 8 ∧ (n : Int) + i / 8 < (s.length : Int) := by omega
  have q4 : (8 * (n : Int) - (i + 1)).toNat < (8 * (n : Int) - i).toNat := by omega
  have q5 : 0 ≤ i + 1 ∧ i + 1 ≤ 8 * (n : Int) := by omega
  rw [hok] at hbad ⊢
  clear hok hst hpos hpr p1 p2 b1 b2 e1 e2 e3 e4 e5 e6 ha he
  generalize nbit (s.drop n) i.toNat = M at *
  generalize nbit s i.toNat = B at *
  generalize (List.range (8 * n)).all (okM (s.drop n) s) = A at *
  cases M <;> cases B <;> cases en <;> simp [q1, q2, q3, q4, q5] at hbad ⊢ <;> first | exact hbad | exact hbad.symm | exact ⟨by omega, hbad⟩ | omega
theorem h34 : c_within_mask.ok Tryz.prog GL 34 := conO_ok (H := {}) (mkEnvO_ok (gl := GL) (l := []) (q := []) (d := []) _ [1000000] tyOk (by kernel_rfl) trivial trivial trivial) (by kernel_rfl) (by kernel_rfl) (Eq.mp e34 k34)
def t62 : Prop :=
  ∀ (x : q19), (q212 x) -> List.length x.1.2 <= q83 /\ List.length x.2.1 <= q83 -> List.length [SV.dat q103 x.1.1, SV.dat Kd.str x.1.2] <= q56 /\ (List.length x.2.1 < q22 /\ List.length (bs {
  data := #[(64 : UInt8)] }) = q26) /\ (∀ (y : q3), (q27 y) -> y.1 = (q210 x).1 /\ y.2.1 = (q210 x).2.1 /\ y.2.2.1 = (q210 x).2.2 -> (List.length x.1.2 < q22 /\ List.length (bs { data :=
  #[(64 : UInt8)] }) = q26) /\ (∀ (y_1 : q3), (q27 y_1) -> y_1.1 = (q211 x).1 /\ y_1.2.1 = (q211 x).2.1 /\ y_1.2.2.1 = (q211 x).2.2 -> (y_1.2.2.1 = true -> (decide (y_1.1 = y.1) = true ->
  True) /\ (decide (y_1.1 = y.1) = true -> True) /\ (decide (y_1.1 = y.1) = true -> (decide (y_1.1 = y.1) == true) = true /\ (decide (y_1.1 = y.1) == true) = true /\ (List.length y_1.2.1 <=
  q88 /\ List.length y.2.1 <= q88) /\ (∀ (y_2 : q4), (q34 y_2) -> y_2.1 = matchD y_1.2.1 y.2.1 -> y_2.1 = mailT x.1.2 x.2.1) /\ True) /\ (decide (y_1.1 = y.1) = !true -> false = mailT x.1.2
  x.2.1)) /\ (y_1.2.2.1 = false -> True /\ (∀ (y_2 : q5), (wsZ y_2.1 /\ wbZ y_2.2.1 /\ True) -> (y_2.1 = if hasP q178 x.1.2 = true then List.drop (List.length q178) x.1.2 else x.1.2) /\
  y_2.2.1 = hasP q178 x.1.2 -> (y_2.2.1 = true -> (List.length y.2.1 <= q88 /\ List.length y_2.1 <= q88) /\ (∀ (y_3 : q4), (q34 y_3) -> y_3.1 = belowD y.2.1 y_2.1 -> (y_3.1 = true -> True) /\
  (y_3.1 = true -> True) /\ (y_3.1 = true -> (y_3.1 == true) = true /\ (y_3.1 == true) = true /\ (List.length y_2.1 <= q88 /\ List.length y.2.1 <= q88) /\ (∀ (y_4 : q4), (q34 y_4) -> y_4.1 =
  matchD y_2.1 y.2.1 -> (!y_4.1) = mailT x.1.2 x.2.1) /\ True) /\ (y_3.1 = !true -> false = mailT x.1.2 x.2.1)) /\ True) /\ (y_2.2.1 = false -> (List.length x.1.2 <= q88 /\ List.length y.2.1
  <= q88) /\ (∀ (y_3 : q4), (q34 y_3) -> y_3.1 = matchD x.1.2 y.2.1 -> y_3.1 = mailT x.1.2 x.2.1) /\ True)) /\ True)) /\ True) /\ True
theorem e62 : t62 = Con.vc c_within_tree_email GL (mkEnvO ty [(46, conSem c_strings_Cut), (19, conSem c_host_Match), (42, conSem c_strings_CutPrefix), (8, conSem c_within_Below)] [] [] [0, 1, 2, 4, 5, 6, 8, 9, 10, 11, 12, 26, 41] [1000000]) {} Tryz.f62.ntmps Tryz.f62.results.toList (bodyOf Tryz.f62) := by kernel_rfl
theorem k62 : t62 := by
  unfold t62
  delta q19 q212 q83 q103 q56 q22 q26 q3 q27 q210 q211 q88 q4 q34 q5 wsZ wbZ q178 q262 q276 q231 q291 q295
  rintro ⟨⟨k, b⟩, s, _⟩ hx hp
  obtain ⟨hb, hs⟩ := hp
  simp only at hb hs
  clear hx
  try dsimp +instances only [dft_int, dft_sl, dft_str]
  simp only [true_and, and_true, eq_self_iff_true, implies_true, reduceCtorEq, false_implies, true_implies, decide_eq_true_eq, decide_eq_false_iff_not, beq_self_eq_true, Bool.not_eq_true', ne_eq, Decidable.not_not, List.nil_append, List.length_singleton, List.length_cons, List.length_nil, Nat.zero_add, Nat.add_zero, Nat.mul_one, and_self, beq_iff_eq, Bool.not_true, Bool.not_false, Bool.not_eq_false', Bool.cond_false_right, Bool.and_eq_true, imp_self, Bool.not_eq_true, Bool.cond_true_left, Bool.or_eq_true]
  have b64 : (bs { data := #[64] }).getD 0 0 = 64 := rfl
  have b46 : bs { data := #[46] } = [46] := rfl
  rw [b64, b46]
  have la := cutD_len s 64
  have lb := cutD_len b 64
  refine ⟨by decide, ⟨by omega, rfl⟩, ?_⟩
  rintro ⟨lo, at', f, _⟩ _ ⟨h1, h2, h3⟩
  refine ⟨⟨by omega, rfl⟩, ?_⟩
  rintro ⟨ow, ho, fu, _⟩ _ ⟨g1, g2, g3⟩
  simp only at h1 h2 h3 g1 g2 g3 ⊢
  refine ⟨fun hf => ⟨fun heq => ⟨heq, heq, ⟨by rw [g2]; omega, by rw [h2]; omega⟩, ?_⟩, fun hne => ?_⟩, fun hf => ?_⟩
  . rintro ⟨r, _⟩ _ er
    simp only at er ⊢
    rw [er, mailT, if_pos (by rw [← g3]; exact hf), ← g1, ← h1, ← g2, ← h2, decide_eq_true heq]; rfl
  . rw [mailT, if_pos (by rw [← g3]; exact hf), ← g1, ← h1, decide_eq_false hne]; rfl
  . rintro ⟨re, ok, _⟩ _ ⟨k1, k2⟩
    simp only at k1 k2 ⊢
    have hm : mailT b s = if hasP [46] b then belowD (cutD 64 s).2.1 (b.drop 1) && !belowD (b.drop 1) (cutD 64 s).2.1 else matchD b (cutD 64 s).2.1 := by rw [mailT, if_neg (by rw [← g3, hf]; decide)]
    refine ⟨fun h => ?_, fun h => ?_⟩
    . have hre : re = b.drop 1 := by rw [k1, if_pos (by rw [← k2]; exact h)]; rfl
      refine ⟨⟨by rw [h2]; omega, by rw [hre, List.length_drop]; omega⟩, ?_⟩
      rintro ⟨v, _⟩ _ ev
      simp only at ev ⊢
      rw [hm, if_pos (by rw [← k2]; exact h), ← h2, ← hre]
      refine ⟨fun hv => ⟨hv, hv, ⟨by rw [hre, List.length_drop]; omega, by rw [h2]; omega⟩, ?_⟩, fun hv => by rw [← ev, hv]; rfl⟩
      rintro ⟨u, _⟩ _ eu
      simp only at eu ⊢
      rw [eu, below_strict (by rw [← ev]; exact hv), ← ev, hv, Bool.true_and]
    . refine ⟨⟨by omega, by rw [h2]; omega⟩, ?_⟩
      rintro ⟨u, _⟩ _ eu
      simp only at eu ⊢
      rw [hm, if_neg (by rw [← k2, h]; decide), eu, h2]
theorem h62 : c_within_tree_email.ok Tryz.prog GL 62 := conO_ok (H := {}) (mkEnvO_ok (gl := GL) (l := [(46, conSem c_strings_Cut), (19, conSem c_host_Match), (42, conSem c_strings_CutPrefix), (8, conSem c_within_Below)]) (q := []) (d := []) _ [1000000] tyOk (by kernel_rfl) ⟨h46.call, h19.call, h42.call, h8.call, trivial⟩ trivial trivial) (by kernel_rfl) (by kernel_rfl) (Eq.mp e62 k62)
def t63 : Prop :=
  ∀ (x : q19), (q212 x) -> List.length x.1.2 <= q83 /\ List.length x.2.1 <= q83 -> List.length [SV.dat q103 x.1.1, SV.dat Kd.str x.1.2] <= q56 /\ (List.length x.2.1 <= q88 /\ List.length
  x.1.2 <= q88) /\ (∀ (y : q4), (q34 y) -> y.1 = belowD x.2.1 x.1.2 -> y.1 = belowD x.2.1 x.1.2) /\ True
theorem e63 : t63 = Con.vc c_within_tree_dns GL (mkEnv ty [(8, conSem c_within_Below)] [] [] [0, 1, 2, 4]) {} Tryz.f63.ntmps Tryz.f63.results.toList (bodyOf Tryz.f63) := by kernel_rfl
theorem k63 : t63 := by
  unfold t63
  delta q19 q212 q83 q103 q56 q88 q4 q34 q262 wsZ wbZ q291
  rintro ⟨⟨k, b⟩, s, _⟩ hx hp
  obtain ⟨hb, hs⟩ := hp
  simp only at hb hs
  try dsimp +instances only [dft_int, dft_sl, dft_str]
  simp only [true_and, and_true, eq_self_iff_true, implies_true, reduceCtorEq, false_implies, true_implies, decide_eq_true_eq, decide_eq_false_iff_not, beq_self_eq_true, Bool.not_eq_true', ne_eq, Decidable.not_not, List.nil_append, List.length_singleton, List.length_cons, List.length_nil, Nat.zero_add, Nat.add_zero, Nat.mul_one, and_self, beq_iff_eq, Bool.not_true, Bool.not_false, Bool.not_eq_false', Bool.cond_false_right, Bool.and_eq_true, imp_self, Bool.not_eq_true, Bool.cond_true_left, Bool.or_eq_true]
  exact ⟨by decide, by omega, by omega⟩
theorem h63 : c_within_tree_dns.ok Tryz.prog GL 63 := con_ok (H := {}) (mkEnv_ok (gl := GL) (l := [(8, conSem c_within_Below)]) (q := []) (d := []) _ tyOk (by kernel_rfl) ⟨h8.call, trivial⟩ trivial trivial) (by kernel_rfl) (by kernel_rfl) (Eq.mp e63 k63)
def t64 : Prop :=
  ∀ (x : q19), (q212 x) -> List.length x.1.2 <= q83 /\ List.length x.2.1 <= q83 /\ namedD x.1.2 = true /\ namedD x.2.1 = true -> List.length [SV.dat q103 x.1.1, SV.dat Kd.str x.1.2] <= q56 /\
  lenB x.2.1 <= q83 /\ (∀ (y : q17), (q190 y) -> decQ x.2.1 y.1 y.2.1 = true -> lenB x.1.2 <= q83 /\ (∀ (y_1 : q17), (q190 y_1) -> decQ x.1.2 y_1.1 y_1.2.1 = true -> (List.length y_1.1 <= q88
  /\ (∀ (a : Int × List Int), a ∈ y.1 -> List.length a.2 <= q83) /\ ∀ (a : Int × List Int), a ∈ y_1.1 -> List.length a.2 <= q83) /\ (∀ (y_2 : q4), (q34 y_2) -> y_2.1 = beginsD y.1 y_1.1 ->
  y_2.1 = beginsD (guessD x.2.1) (guessD x.1.2)) /\ True) /\ True) /\ True
theorem e64 : t64 = Con.vc c_within_tree_name GL (mkEnv ty [(96, conSem c_name_Decode), (97, conSem c_name_Begins)] [] [] [0, 1, 2, 4, 5, 7]) {} Tryz.f64.ntmps Tryz.f64.results.toList (bodyOf Tryz.f64) := by kernel_rfl
theorem k64 : t64 := by
  unfold t64
  delta q19 q212 q83 q103 q56 q17 q190 q88 q4 q34 q262 wsZ wiZ wbZ q291
  rintro ⟨⟨k, b⟩, s, _⟩ hx hp
  obtain ⟨hb, hs, nb, ns⟩ := hp
  simp only at hb hs nb ns
  try dsimp +instances only [dft_int, dft_sl, dft_str]
  simp only [true_and, and_true, eq_self_iff_true, implies_true, reduceCtorEq, false_implies, true_implies, decide_eq_true_eq, decide_eq_false_iff_not, beq_self_eq_true, Bool.not_eq_true', ne_eq, Decidable.not_not, List.nil_append, List.length_singleton, List.length_cons, List.length_nil, Nat.zero_add, Nat.add_zero, Nat.mul_one, and_self, beq_iff_eq, Bool.not_true, Bool.not_false, Bool.not_eq_false', Bool.cond_false_right, Bool.and_eq_true, imp_self, Bool.not_eq_true, Bool.cond_true_left, Bool.or_eq_true]
  refine ⟨by decide, by rw [lenB]; omega, ?_⟩
  rintro ⟨x, e, _⟩ _ h1
  refine ⟨by rw [lenB]; omega, ?_⟩
  rintro ⟨y, f, _⟩ _ h2
  simp only at h1 h2 ⊢
  obtain ⟨rfl, _⟩ := (dec_named h1).2 ns
  obtain ⟨rfl, _⟩ := (dec_named h2).2 nb
  have l1 := guess_len s
  have l2 := guess_len b
  refine ⟨⟨by omega, fun a ha => by have := l1.2 a ha; omega, fun a ha => by have := l2.2 a ha; omega⟩, ?_⟩
  rintro ⟨z, _⟩ _ ez
  exact ez
theorem h64 : c_within_tree_name.ok Tryz.prog GL 64 := con_ok (H := {}) (mkEnv_ok (gl := GL) (l := [(96, conSem c_name_Decode), (97, conSem c_name_Begins)]) (q := []) (d := []) _ tyOk (by kernel_rfl) ⟨h96.call, h97.call, trivial⟩ trivial trivial) (by kernel_rfl) (by kernel_rfl) (Eq.mp e64 k64)
def t65 : Prop :=
  ∀ (x : q19), (q212 x) -> List.length x.1.2 <= q83 /\ List.length x.2.1 <= q83 /\ maskD x.1.2 = true -> List.length [SV.dat q103 x.1.1, SV.dat Kd.str x.1.2] <= q56 /\ q60 ≠ q23 /\ (decide
  ((lnZ x.2.1) ≠ wrZ (q214 x)) = true -> false = ipT x.1.2 x.2.1) /\ (decide ((lnZ x.2.1) ≠ wrZ (q214 x)) = false -> ∃ (I : Int × Bool × Unit -> Unit × Unit -> Prop), ∃ (μ : Int × Bool × Unit
  -> Unit × Unit -> Nat), (wrZ (q214 x) = wrZ (q214 x) /\ Value.bool false = Value.bool false /\ wrZ (q214 x) = wrZ (q214 x) /\ x.1 = x.1 /\ x.2.1 = x.2.1 /\ x.1.1 = x.1.1 /\ x.1.2 = x.1.2 /\
  I (q23, false, ()) ((), ())) /\ ∀ (y : q10) (z : Unit × Unit), (q73 y) -> True /\ True -> I y z -> (decide (y.1 < wrZ (q214 x)) = true -> (q23 <= y.1 /\ y.1 < (lnZ x.2.1)) /\ (q23 <= wrZ
  (wrZ (q214 x) + y.1) /\ wrZ (wrZ (q214 x) + y.1) < (lnZ x.1.2)) /\ (q23 <= y.1 /\ y.1 < (lnZ x.1.2)) /\ (decide (q213 x y) = true -> false = ipT x.1.2 x.2.1) /\ (decide (q213 x y) = false
  -> wrZ (q214 x) = wrZ (q214 x) /\ Value.bool false = Value.bool false /\ wrZ (q214 x) = wrZ (q214 x) /\ x.1 = x.1 /\ x.2.1 = x.2.1 /\ x.1.1 = x.1.1 /\ x.1.2 = x.1.2 /\ I (wrZ (q74 y),
  y.2.1, ()) ((), ()) /\ μ (wrZ (q74 y), y.2.1, ()) ((), ()) < μ y z)) /\ (decide (y.1 < wrZ (q214 x)) = false -> true = ipT x.1.2 x.2.1))
theorem e65 : t65 = Con.vc c_within_tree_ip GL (mkEnvO ty [] [] [] [0, 1, 2, 4, 5, 6, 14, 15, 16, 17, 33] [1000000]) {} Tryz.f65.ntmps Tryz.f65.results.toList (bodyOf Tryz.f65) := by kernel_rfl
theorem k65 : t65 := by
  unfold t65
  delta q19 q212 q83 q103 q56 q60 q23 lnZ wrZ q214 q10 q73 q213 q74 q262 wsZ q241 wiZ wbZ q287 q232 q228 q253 q291
  rintro ⟨⟨k, b⟩, s, _⟩ hx hp
  obtain ⟨hb, hs, hm⟩ := hp
  simp only at hb hs hm
  have wb : Bys b := str_bys hx.1.2
  have ws : Bys s := str_bys hx.2.1
  clear hx
  try dsimp +instances only [dft_int, dft_sl, dft_str]
  simp only [true_and, and_true, eq_self_iff_true, implies_true, reduceCtorEq, false_implies, true_implies, decide_eq_true_eq, decide_eq_false_iff_not, beq_self_eq_true, Bool.not_eq_true', ne_eq, Decidable.not_not, List.nil_append, List.length_singleton, List.length_cons, List.length_nil, Nat.zero_add, Nat.add_zero, Nat.mul_one, and_self, beq_iff_eq, Bool.not_true, Bool.not_false, Bool.not_eq_false', Bool.cond_false_right, Bool.and_eq_true, imp_self, Bool.not_eq_true, Bool.cond_true_left, Bool.or_eq_true]
  rw [← ip_eq wb ws hm]
  obtain ⟨n, hn⟩ : ∃ n : Nat, b.length / 2 = n := ⟨_, rfl⟩
  have e1 : IntKind.i64.wrap ((b.length : Int).tdiv 2) = (n : Int) := by rw [Int.tdiv_eq_ediv_of_nonneg (by omega), wrapK _ (by omega) (by omega)]; omega
  have hI : ipB b s = (decide (s.length = n) && (List.range n).all fun j => decide ((s.getD j 0).toNat &&& (b.getD (n + j) 0).toNat = (b.getD j 0).toNat)) := by rw [ipB, hn]
  simp only [e1]
  rw [hI]
  refine ⟨by decide, by decide, fun h => by rw [decide_eq_false (by omega)]; rfl, fun h => ?_⟩
  rw [decide_eq_true (show s.length = n by omega), Bool.true_and]
  generalize hF : (fun j => decide ((s.getD j 0).toNat &&& (b.getD (n + j) 0).toNat = (b.getD j 0).toNat)) = F
  refine ⟨fun y _ => 0 ≤ y.1 ∧ y.1 ≤ n ∧ (List.range y.1.toNat).all F = true, fun y _ => ((n : Int) - y.1).toNat, ⟨Int.le_refl 0, by simp only; omega, rfl⟩, ?_⟩
  rintro ⟨i, q, _⟩ z _ ⟨i0, i1, ha⟩
  simp only at i0 i1 ha ⊢
  have e4 : IntKind.i64.wrap ((n : Int) + i) = n + i := wrapK _ (by omega) (by omega)
  have e6 : IntKind.i64.wrap (i + 1) = i + 1 := wrapK _ (by omega) (by omega)
  have hv : decide (IntKind.u8.wrap ↑(BitVec.ofInt 8 (s.getD i.toNat 0) &&& BitVec.ofInt 8 (b.getD ((n : Int) + i).toNat 0)).toNat = b.getD i.toNat 0) = F i.toNat := by
    rw [and8 (bys_gd ws _) (bys_gd wb _), ← hF]
    have := bys_gd wb i.toNat
    refine decide_eq_decide.2 ?_
    rw [show ((n : Int) + i).toNat = n + i.toNat by omega]
    omega
  simp only [e4, e6]
  refine ⟨fun hlt => ⟨⟨i0, by omega⟩, ⟨by omega, by omega⟩, ⟨i0, by omega⟩, fun hne => ?_, fun he => ?_⟩, fun hge => ?_⟩
  . rw [decide_eq_false hne] at hv
    exact (range_bad (by omega) hv.symm).symm
  . rw [decide_eq_true he] at hv
    refine ⟨⟨by omega, by omega, ?_⟩, by omega⟩
    rw [show (i + 1).toNat = i.toNat + 1 by omega, range_step, ha, ← hv]; rfl
  . rw [show n = i.toNat by omega, ha]
theorem h65 : c_within_tree_ip.ok Tryz.prog GL 65 := conO_ok (H := {}) (mkEnvO_ok (gl := GL) (l := []) (q := []) (d := []) _ [1000000] tyOk (by kernel_rfl) trivial trivial trivial) (by kernel_rfl) (by kernel_rfl) (Eq.mp e65 k65)
def t38 : Prop :=
  ∀ (x : q1), (q20 x) -> True -> (decide (q23 < q220) = true -> (q23 <= q23 /\ q23 < q220) /\ q59 <= q56 /\ (decide (q58 = x.1) = true -> (63 : Nat) = asksN x.1) /\ (decide (q58 = x.1) =
  false -> (decide (wrZ q254 < q220) = true -> (q23 <= wrZ q254 /\ wrZ q254 < q220) /\ q59 <= q56 /\ (decide (q60 = x.1) = true -> (64 : Nat) = asksN x.1) /\ (decide (q60 = x.1) = false ->
  (decide (wrZ q219 < q220) = true -> (q23 <= wrZ q219 /\ wrZ q219 < q220) /\ q59 <= q56 /\ (decide ((4 : Int) = x.1) = true -> (65 : Nat) = asksN x.1) /\ (decide ((4 : Int) = x.1) = false ->
  (decide q216 = true -> (q23 <= wrZ q218 /\ wrZ q218 < q220) /\ q59 <= q56 /\ (decide ((7 : Int) = x.1) = true -> (66 : Nat) = asksN x.1) /\ (decide ((7 : Int) = x.1) = false -> (decide q215
  = true -> (q23 <= wrZ q217 /\ wrZ q217 < q220) /\ q59 <= q56 /\ (decide (q23 = x.1) = true -> q57 = asksN x.1) /\ (decide (q23 = x.1) = false -> False)) /\ (decide q215 = false -> q57 =
  asksN x.1))) /\ (decide q216 = false -> q57 = asksN x.1))) /\ (decide (wrZ q219 < q220) = false -> q57 = asksN x.1))) /\ (decide (wrZ q254 < q220) = false -> q57 = asksN x.1))) /\ (decide
  (q23 < q220) = false -> q57 = asksN x.1)
theorem e38 : t38 = Con.vc c_within_asks GL (mkEnv ty [] [] [] [0, 2, 3, 5, 11, 12, 13, 14, 20]) {rounds := [(3,5)]} Tryz.f38.ntmps Tryz.f38.results.toList (bodyOf Tryz.f38) := by kernel_rfl
theorem k38 : t38 := by
  unfold t38
  delta q1 q20 q23 q220 q59 q56 q58 wrZ q254 q60 q219 q216 q218 q215 q217 q57 wiZ q295 q253 q285
  rintro ⟨k, _⟩ hx hp
  try dsimp +instances only [dft_int, dft_sl, dft_str]
  simp only [true_and, and_true, eq_self_iff_true, implies_true, reduceCtorEq, false_implies, true_implies, decide_eq_true_eq, decide_eq_false_iff_not, beq_self_eq_true, Bool.not_eq_true', ne_eq, Decidable.not_not, List.nil_append, List.length_singleton, List.length_cons, List.length_nil, Nat.zero_add, Nat.add_zero, Nat.mul_one, and_self, beq_iff_eq, Bool.not_true, Bool.not_false, Bool.not_eq_false', Bool.cond_false_right, Bool.and_eq_true, imp_self, Bool.not_eq_true, Bool.cond_true_left, Bool.or_eq_true]
  have w1 : IntKind.i64.wrap (0 + 1) = 1 := by decide
  have w2 : IntKind.i64.wrap (1 + 1) = 2 := by decide
  have w3 : IntKind.i64.wrap (2 + 1) = 3 := by decide
  have w4 : IntKind.i64.wrap (3 + 1) = 4 := by decide
  simp only [w1, w2, w3, w4]
  rcases (show k = 1 ∨ k = 2 ∨ k = 4 ∨ k = 7 ∨ (k ≠ 1 ∧ k ≠ 2 ∧ k ≠ 4 ∧ k ≠ 7) by omega) with rfl | rfl | rfl | rfl | ⟨a, b, c, d⟩
  . simp [asksN]
  . simp [asksN]
  . simp [asksN]
  . simp [asksN]
  . simp [asksN, a, b, c, d, Ne.symm a, Ne.symm b, Ne.symm c, Ne.symm d]
theorem h38 : c_within_asks.ok Tryz.prog GL 38 := con_ok (H := {rounds := [(3,5)]}) (mkEnv_ok (gl := GL) (l := []) (q := []) (d := []) _ tyOk (by kernel_rfl) trivial trivial trivial) (by kernel_rfl) (by kernel_rfl) (Eq.mp e38 k38)
def t11 : Prop :=
  ∀ (x : q89 × Unit), (Kd.wf q102 x.1 /\ True) -> List.length x.1.2 <= q83 -> List.length [SV.dat q103 x.1.1, SV.dat Kd.str x.1.2] <= q56 /\ (decide (x.1.1 = q58) = true -> List.length x.1.2
  <= q88 /\ (∀ (y : q4), (q34 y) -> y.1 = emailD x.1.2 -> (y.1 = false -> True) /\ (y.1 = false -> (y.1 == false) = true /\ True) /\ (y.1 = false -> (y.1 == false) = true /\ True /\ (∀ (y :
  q6), (q55 y) -> (y.1 = if hasP q178 x.1.2 = true then List.drop (List.length q178) x.1.2 else x.1.2) -> List.length y.1 <= q88 /\ (∀ (y_1 : q4), (q34 y_1) -> y_1.1 = dnsD y.1 -> y_1.1 =
  mayT x.1.1 x.1.2) /\ True) /\ True) /\ (y.1 = !false -> true = mayT x.1.1 x.1.2)) /\ True) /\ (decide (x.1.1 = q58) = false -> (decide (x.1.1 = q60) = true -> List.length x.1.2 <= q88 /\ (∀
  (y : q4), (q34 y) -> y.1 = dnsD x.1.2 -> y.1 = mayT x.1.1 x.1.2) /\ True) /\ (decide (x.1.1 = q60) = false -> (decide (x.1.1 = (4 : Int)) = true -> List.length x.1.2 <= q83 /\ (∀ (y : q4),
  (q34 y) -> y.1 = mayG (4 : Int) x.1.2 -> y.1 = mayT x.1.1 x.1.2) /\ True) /\ (decide (x.1.1 = (4 : Int)) = false -> (decide (x.1.1 = (7 : Int)) = true -> List.length x.1.2 <= q88 /\ (∀ (y :
  q4), (q34 y) -> y.1 = maskD x.1.2 -> y.1 = mayT x.1.1 x.1.2) /\ True) /\ (decide (x.1.1 = (7 : Int)) = false -> false = mayT x.1.1 x.1.2))))
theorem e11 : t11 = Con.vc c_within_May GL (mkEnvO ty [(32, conSem c_host_Email), (25, conSem c_host_DNS), (33, conSem c_strings_TrimPrefix), (18, conSem c_host_May), (34, conSem c_within_mask)] [] [] [0, 1, 2, 4, 5, 16, 21, 27] [1000000,3000001]) {} Tryz.f11.ntmps Tryz.f11.results.toList (bodyOf Tryz.f11) := by kernel_rfl
theorem k11 : t11 := by
  unfold t11
  delta q89 q102 q83 q103 q56 q58 q88 q4 q34 q6 q55 q178 q60 q291 wbZ wsZ q231
  rintro ⟨⟨k, b⟩, _⟩ hx hp
  have hp : b.length ≤ 100000000 := hp
  clear hx
  try dsimp +instances only [dft_int, dft_sl, dft_str]
  simp only [true_and, and_true, eq_self_iff_true, implies_true, reduceCtorEq, false_implies, true_implies, decide_eq_true_eq, decide_eq_false_iff_not, beq_self_eq_true, Bool.not_eq_true', ne_eq, Decidable.not_not, List.nil_append, List.length_singleton, List.length_cons, List.length_nil, Nat.zero_add, Nat.add_zero, Nat.mul_one, and_self, beq_iff_eq, Bool.not_true, Bool.not_false, Bool.not_eq_false', Bool.cond_false_right, Bool.and_eq_true, imp_self, Bool.not_eq_true, Bool.cond_true_left, Bool.or_eq_true]
  have b46 : bs { data := #[46] } = [46] := rfl
  rw [b46]
  refine ⟨by decide, fun h => ⟨by omega, ?_⟩, fun h1 => ⟨fun h => ⟨by omega, ?_⟩, fun h2 => ⟨fun h => ⟨by omega, ?_⟩, fun h4 => ⟨fun h => ⟨by omega, ?_⟩, fun h7 => ?_⟩⟩⟩⟩
  . rintro ⟨y, _⟩ _ ey
    simp only at ey ⊢
    subst h
    have hd : hasP [46] b = true → emailD b = false := mail_dot
    refine ⟨fun hy => ⟨hy, ?_⟩, fun hy => ?_⟩
    . rintro ⟨z, _⟩ _ ez
      simp only at ez ⊢
      refine ⟨by rw [ez]; split; (rw [List.length_drop]; omega); omega, ?_⟩
      rintro ⟨w, _⟩ _ ew
      simp only at ew ⊢
      rw [ew, ez, mayT, if_pos rfl]
      cases hq : hasP [46] b
      . simp [← ey, hy]
      . simp
    . have he : emailD b = true := by rw [← ey]; exact hy
      rw [mayT, if_pos rfl]
      cases hq : hasP [46] b
      . simp [he]
      . rw [hd hq] at he; cases he
  . rintro ⟨y, _⟩ _ ey
    simp only at ey ⊢
    subst h
    rw [ey]; rfl
  . rintro ⟨y, _⟩ _ ey
    simp only at ey ⊢
    subst h
    rw [ey]; rfl
  . rintro ⟨y, _⟩ _ ey
    simp only at ey ⊢
    subst h
    rw [ey]; rfl
  . rw [mayT, if_neg h1, if_neg h2, if_neg h4, if_neg h7]
theorem h11 : c_within_May.ok Tryz.prog GL 11 := conO_ok (H := {}) (mkEnvO_ok (gl := GL) (l := [(32, conSem c_host_Email), (25, conSem c_host_DNS), (33, conSem c_strings_TrimPrefix), (18, conSem c_host_May), (34, conSem c_within_mask)]) (q := []) (d := []) _ [1000000,3000001] tyOk (by kernel_rfl) ⟨h32.call, h25.call, h33.call, h18.call, h34.call, trivial⟩ trivial trivial) (by kernel_rfl) (by kernel_rfl) (Eq.mp e11 k11)
def t13 : Prop :=
  ∀ (x : q89 × q89 × Unit), (Kd.wf q102 x.1 /\ Kd.wf q102 x.2.1 /\ True) -> List.length x.1.2 <= q83 /\ List.length x.2.1.2 <= q83 -> List.length [SV.dat q103 x.1.1, SV.dat Kd.str x.1.2] <=
  q56 /\ List.length [SV.dat q103 x.2.1.1, SV.dat Kd.str x.2.1.2] <= q56 /\ (decide (x.1.1 ≠ x.2.1.1) = false -> True) /\ (decide (x.1.1 ≠ x.2.1.1) = false -> (decide (x.1.1 ≠ x.2.1.1) ==
  false) = true /\ List.length x.1.2 <= q83 /\ (∀ (y : q4), (q34 y) -> y.1 = mayT x.1.1 x.1.2 -> ((!y.1) = false -> True) /\ ((!y.1) = false -> ((!y.1) == false) = true /\ List.length x.2.1.2
  <= q83 /\ (∀ (y : q4), (q34 y) -> y.1 = mayG x.2.1.1 x.2.1.2 -> ((!y.1) = true -> false = allT x.1 x.2.1) /\ ((!y.1) = false -> ∃ (J : List Int × Unit -> Unit × Unit × Unit -> Prop),
  ((decide (x.2.1.1 = q60) = true -> True /\ (∀ (y : q6), (q55 y) -> (y.1 = if hasP q182 x.2.1.2 = true then List.drop (List.length q182) x.2.1.2 else x.2.1.2) -> Value.bool false =
  Value.bool false /\ Value.bool false = Value.bool false /\ x.1 = x.1 /\ x.2.1 = x.2.1 /\ x.1.1 = x.1.1 /\ x.1.2 = x.1.2 /\ x.2.1.1 = x.2.1.1 /\ x.2.1.2 = x.2.1.2 /\ J (y.1, ()) ((), (),
  ())) /\ True) /\ (decide (x.2.1.1 = q60) = false -> Value.bool false = Value.bool false /\ Value.bool false = Value.bool false /\ x.1 = x.1 /\ x.2.1 = x.2.1 /\ x.1.1 = x.1.1 /\ x.1.2 =
  x.1.2 /\ x.2.1.1 = x.2.1.1 /\ x.2.1.2 = x.2.1.2 /\ J (x.2.1.2, ()) ((), (), ()))) /\ ∀ (u : q6) (z : Unit × Unit × Unit), (q55 u) -> True /\ True /\ True -> J u z -> ((True /\ (∀ (y : Nat ×
  Unit), (Kd.wf Kd.fn y.1 /\ True) -> y.1 = asksN x.1.1 -> (((y.1 = (63 : Nat) \/ y.1 = (64 : Nat) \/ y.1 = (65 : Nat) \/ y.1 = (66 : Nat) \/ False) /\ (y.1 = (63 : Nat) -> (List.length x.1.2
  <= q255 /\ List.length u.1 <= q255) /\ (∀ (y : q4), (wbZ y.1 /\ True) -> y.1 = mailT x.1.2 u.1 -> y.1 = allT x.1 x.2.1) /\ True) /\ (y.1 = (64 : Nat) -> (List.length x.1.2 <= q255 /\
  List.length u.1 <= q255) /\ (∀ (y : q4), (wbZ y.1 /\ True) -> y.1 = belowD u.1 x.1.2 -> y.1 = allT x.1 x.2.1) /\ True) /\ (y.1 = (65 : Nat) -> (List.length x.1.2 <= q255 /\ List.length u.1
  <= q255 /\ namedD x.1.2 = true /\ namedD u.1 = true) /\ (∀ (y : q4), (wbZ y.1 /\ True) -> y.1 = beginsD (guessD u.1) (guessD x.1.2) -> y.1 = allT x.1 x.2.1) /\ True) /\ (y.1 = (66 : Nat) ->
  (List.length x.1.2 <= q255 /\ List.length u.1 <= q255 /\ maskD x.1.2 = true) /\ (∀ (y : q4), (wbZ y.1 /\ True) -> y.1 = ipT x.1.2 u.1 -> y.1 = allT x.1 x.2.1) /\ True) /\ True) /\ True) /\
  True) /\ True) /\ (q221 x u) /\ True) /\ ((q221 x u) /\ True) /\ True)) /\ True) /\ ((!y.1) = !false -> false = allT x.1 x.2.1)) /\ True) /\ (decide (x.1.1 ≠ x.2.1.1) = !false -> false =
  allT x.1 x.2.1)
theorem e13 : t13 = Con.vc c_within_All GL (mkEnvO ty [(11, conSem c_within_May), (18, conSem c_host_May), (33, conSem c_strings_TrimPrefix), (38, conSem c_within_asks), (62, conSem c_within_tree_email), (63, conSem c_within_tree_dns), (64, conSem c_within_tree_name), (65, conSem c_within_tree_ip)] [] [] [0, 1, 2, 3, 4, 5, 20, 25] [2000062,2000063,2000064,2000065,1000000]) {joins := [6]} Tryz.f13.ntmps Tryz.f13.results.toList (bodyOf Tryz.f13) := by kernel_rfl
theorem k13 : t13 := by
  unfold t13
  delta q89 q102 q83 q103 q56 q4 q34 q60 q6 q55 q182 q255 wbZ q221 q291 wsZ q231
  rintro ⟨⟨k, b⟩, ⟨g, s⟩, _⟩ hx hp
  obtain ⟨hb, hs⟩ := hp
  simp only at hb hs
  clear hx
  try dsimp +instances only [dft_int, dft_sl, dft_str]
  simp only [true_and, and_true, eq_self_iff_true, implies_true, reduceCtorEq, false_implies, true_implies, decide_eq_true_eq, decide_eq_false_iff_not, beq_self_eq_true, Bool.not_eq_true', ne_eq, Decidable.not_not, List.nil_append, List.length_singleton, List.length_cons, List.length_nil, Nat.zero_add, Nat.add_zero, Nat.mul_one, and_self, beq_iff_eq, Bool.not_true, Bool.not_false, Bool.not_eq_false', Bool.cond_false_right, Bool.and_eq_true, imp_self, Bool.not_eq_true, Bool.cond_true_left, Bool.or_eq_true]
  have b42 : bs { data := #[42, 46] } = [42, 46] := rfl
  rw [b42]
  refine ⟨by decide, by decide, fun hk => ⟨hk, hb, ?_⟩, fun hk => by simp [allT, hk]⟩
  rintro ⟨m, _⟩ _ em
  simp only at em ⊢
  refine ⟨fun hm => ⟨hm, hs, ?_⟩, fun hm => by rw [allT, ← em, hm]; simp⟩
  rintro ⟨h, _⟩ _ eh
  simp only at eh ⊢
  refine ⟨fun hh => by rw [allT, ← eh, hh]; simp, fun hh => ?_⟩
  refine ⟨fun u _ => u.1 = (if g = 2 then bareT s else s), ⟨fun h2 => ?_, fun h2 => by rw [if_neg h2]⟩, ?_⟩
  . rintro ⟨y, _⟩ _ ey
    simp only at ey
    show y = _
    rw [if_pos h2, ey, bareT]; rfl
  rintro ⟨u, _⟩ z _ hu ⟨f, _⟩ _ ef
  simp only at hu ef ⊢
  have hmk : mayT k b = true := by rw [← em]; exact hm
  have hgk : mayG g s = true := by rw [← eh]; exact hh
  have hA : allT (k, b) (g, s) = liesT k b u := by
    unfold allT
    simp only
    rw [decide_eq_true hk, hmk, hgk, hu]; rfl
  rw [hA]
  have hul : u.length ≤ 100000000 := by
    rw [hu]
    split
    . rw [bareT]; split
      . rw [List.length_drop]; omega
      . exact hs
    . exact hs
  subst hk
  rcases may_kinds hgk with ⟨rfl, he⟩ | ⟨rfl, he⟩ | ⟨rfl, he⟩ | ⟨rfl, he⟩
  . obtain rfl : f = 62 + 1 := ef
    refine ⟨by simp, fun _ => ⟨⟨hb, hul⟩, ?_⟩, fun h => absurd h (by decide), fun h => absurd h (by decide), fun h => absurd h (by decide)⟩
    rintro ⟨y, _⟩ _ ey
    exact ey
  . obtain rfl : f = 63 + 1 := ef
    refine ⟨by simp, fun h => absurd h (by decide), fun _ => ⟨⟨hb, hul⟩, ?_⟩, fun h => absurd h (by decide), fun h => absurd h (by decide)⟩
    rintro ⟨y, _⟩ _ ey
    exact ey
  . obtain rfl : f = 64 + 1 := ef
    have hus : u = s := by rw [hu, if_neg (by decide)]
    refine ⟨by simp, fun h => absurd h (by decide), fun h => absurd h (by decide), fun _ => ⟨⟨hb, hul, hmk, by rw [hus]; exact he⟩, ?_⟩, fun h => absurd h (by decide)⟩
    rintro ⟨y, _⟩ _ ey
    exact ey
  . obtain rfl : f = 65 + 1 := ef
    refine ⟨by simp, fun h => absurd h (by decide), fun h => absurd h (by decide), fun h => absurd h (by decide), fun _ => ⟨⟨hb, hul, hmk⟩, ?_⟩⟩
    rintro ⟨y, _⟩ _ ey
    exact ey
theorem h13 : c_within_All.ok Tryz.prog GL 13 := conO_ok (H := {joins := [6]}) (mkEnvO_ok (gl := GL) (l := [(11, conSem c_within_May), (18, conSem c_host_May), (33, conSem c_strings_TrimPrefix), (38, conSem c_within_asks), (62, conSem c_within_tree_email), (63, conSem c_within_tree_dns), (64, conSem c_within_tree_name), (65, conSem c_within_tree_ip)]) (q := []) (d := []) _ [2000062,2000063,2000064,2000065,1000000] tyOk (by kernel_rfl) ⟨h11.call, h18.call, h33.call, h38.call, h62.call, h63.call, h64.call, h65.call, trivial⟩ trivial trivial) (by kernel_rfl) (by kernel_rfl) (Eq.mp e13 k13)
end Go.Proofs.YtgnlcpoeepfdoaaGreatDoor
end
section
namespace Go.Proofs.YtgnlcpoeepfdoaaGreatDoor
open Go Go.Vc Go.Pl Go.Proofs
def c_r14_Below : Con := { args := [.dat .str, .dat .str], res := [.dat .bool], pre := fun x => x.1.length ≤ 100000000 ∧ x.2.1.length ≤ 100000000, post := fun x y => y.1 = belowD x.1 x.2.1 }
end Go.Proofs.YtgnlcpoeepfdoaaGreatDoor
end
section
namespace Go.Proofs.YtgnlcpoeepfdoaaGreatDoor
open Go Go.Vc Go.Pl Go.Proofs
set_option linter.unusedVariables false
set_option linter.unusedSimpArgs false
abbrev q222 (p0 : q16) (p1 : q10) (p2 : q16) := (bif decide ((lnZ p0.1) < p1.1) then true else decide (List.getD p0.1 (Int.toNat (wrZ ((lnZ p0.1) - p1.1))) (Kd.dft Kd.str) ≠ List.getD p2.1
  (Int.toNat (wrZ ((lnZ p2.1) - p1.1))) (Kd.dft Kd.str)))
abbrev q256 (p0 : q16) (p1 : q10) := (decide ((lnZ p0.1) < p1.1) == false)
abbrev q223 (p0 : q16) (p1 : q10) := (decide ((lnZ p0.1) < p1.1) = false -> (q256 p0 p1) = true /\ (q256 p0 p1) = true /\ True)
abbrev q224 (p0 : q16) (p1 : q10) := (decide ((lnZ p0.1) < p1.1) = false -> (q256 p0 p1) = true /\ True)
abbrev q225 (p0 : q16) (p1 : q10) := (decide ((lnZ p0.1) < p1.1) = false -> True)
def t9 : Prop :=
  ∀ (x : q2), (q21 x) -> List.length x.1 <= q83 /\ List.length x.2.1 <= q83 -> List.length x.1 <= q88 /\ (∀ (y : q4), (q34 y) -> y.1 = dnsD x.1 -> ((!y.1) = false -> True) /\ ((!y.1) = false
  -> ((!y.1) == false) = true /\ List.length x.2.1 <= q88 /\ (∀ (y : q4), (q34 y) -> y.1 = dnsD x.2.1 -> ((!y.1) = true -> false = belowD x.1 x.2.1) /\ ((!y.1) = false -> List.length x.1 <=
  q88 /\ (∀ (y : q6), (q55 y) -> y.1 = lowD x.1 -> List.length y.1 <= q88 /\ (∀ (y_1 : q16), (Kd.wf (Kd.sl Kd.str) y_1.1 /\ True) -> y_1.1 = labelsD y.1 -> List.length x.2.1 <= q88 /\ (∀ (y :
  q6), (q55 y) -> y.1 = lowD x.2.1 -> List.length y.1 <= q88 /\ (∀ (y_2 : q16), (Kd.wf (Kd.sl Kd.str) y_2.1 /\ True) -> y_2.1 = labelsD y.1 -> ∃ (I : q8), ∃ (μ : q9), (Value.bool false =
  Value.bool false /\ x.1 = x.1 /\ x.2.1 = x.2.1 /\ y_1.1 = y_1.1 /\ y_2.1 = y_2.1 /\ I (q58, false, ()) ()) /\ ∀ (y : q10) (z : Unit), (q73 y) -> True -> I y z -> (decide (y.1 <= (lnZ
  y_2.1)) = true -> (q225 y_1 y) /\ (q225 y_1 y) /\ (q224 y_1 y) /\ (q225 y_1 y) /\ (q223 y_1 y) /\ (decide ((lnZ y_1.1) < y.1) = false -> (q256 y_1 y) = true /\ (q256 y_1 y) = true /\ (q23
  <= wrZ ((lnZ y_1.1) - y.1) /\ wrZ ((lnZ y_1.1) - y.1) < (lnZ y_1.1)) /\ True) /\ (q224 y_1 y) /\ (q225 y_1 y) /\ (q225 y_1 y) /\ (q224 y_1 y) /\ (q225 y_1 y) /\ (q223 y_1 y) /\ (decide
  ((lnZ y_1.1) < y.1) = false -> (q256 y_1 y) = true /\ (q256 y_1 y) = true /\ (q23 <= wrZ ((lnZ y_2.1) - y.1) /\ wrZ ((lnZ y_2.1) - y.1) < (lnZ y_2.1)) /\ True) /\ (q224 y_1 y) /\ (q223 y_1
  y) /\ (decide ((lnZ y_1.1) < y.1) = false -> (q256 y_1 y) = true) /\ ((q222 y_1 y y_2) = true -> false = belowD x.1 x.2.1) /\ ((q222 y_1 y y_2) = false -> Value.bool false = Value.bool
  false /\ x.1 = x.1 /\ x.2.1 = x.2.1 /\ y_1.1 = y_1.1 /\ y_2.1 = y_2.1 /\ I (wrZ (q74 y), y.2.1, ()) () /\ μ (wrZ (q74 y), y.2.1, ()) () < μ y z)) /\ (decide (y.1 <= (lnZ y_2.1)) = false ->
  true = belowD x.1 x.2.1)) /\ True) /\ True) /\ True) /\ True)) /\ True) /\ ((!y.1) = !false -> false = belowD x.1 x.2.1)) /\ True
theorem e9 : t9 = Con.vc c_r14_Below GL (mkEnvO ty [(28, conSem c_r13_DNS), (29, conSem c_r13_Labels), (30, conSem c_r13_Small)] [] [] [0, 1, 4, 5, 6, 7, 15, 25, 48] [1000000]) {} Tryz.f9.ntmps Tryz.f9.results.toList (bodyOf Tryz.f9) := by kernel_rfl
theorem k9 : t9 := by
  unfold t9
  delta q2 q21 q83 q88 q4 q34 q6 q55 q16 q8 q9 q58 q10 q73 lnZ q225 q224 q223 q256 q23 wrZ q222 q74 wsZ wbZ wiZ q253
  rintro ⟨a, b, _⟩ hx hp
  obtain ⟨ha, hb⟩ := hp
  simp only at ha hb
  clear hx
  try dsimp +instances only [dft_int, dft_sl, dft_str]
  simp only [true_and, and_true, eq_self_iff_true, implies_true, reduceCtorEq, false_implies, true_implies, decide_eq_true_eq, decide_eq_false_iff_not, beq_self_eq_true, Bool.not_eq_true', ne_eq, Decidable.not_not, List.nil_append, List.length_singleton, List.length_cons, List.length_nil, Nat.zero_add, Nat.add_zero, Nat.mul_one, and_self, beq_iff_eq, Bool.not_true, Bool.not_false, Bool.not_eq_false', Bool.cond_false_right, Bool.and_eq_true, imp_self, Bool.not_eq_true, Bool.cond_true_left, Bool.or_eq_true]
  refine ⟨by omega, ?_⟩
  rintro ⟨y, _⟩ _ ey
  simp only at ey ⊢
  refine ⟨fun h1 => ⟨h1, by omega, ?_⟩, fun h1 => by rw [belowD, ← ey, h1]; rfl⟩
  rintro ⟨z, _⟩ _ ez
  simp only at ez ⊢
  refine ⟨fun h2 => by rw [belowD, ← ez, h2]; simp, fun h2 => ⟨by omega, ?_⟩⟩
  rintro ⟨p, _⟩ _ ep
  simp only at ep ⊢
  refine ⟨by rw [ep, low_len]; omega, ?_⟩
  rintro ⟨x, _⟩ _ ex
  simp only at ex ⊢
  refine ⟨by omega, ?_⟩
  rintro ⟨q, _⟩ _ eq
  simp only at eq ⊢
  refine ⟨by rw [eq, low_len]; omega, ?_⟩
  rintro ⟨w, _⟩ _ ew
  simp only at ew ⊢
  have hB : belowD a b = decide (w <:+ x) := by
    rw [below_labels, ← ey, h1, ← ez, h2, ew, ex, eq, ep]; simp
  have lx : x.length ≤ a.length + 1 := by
    rw [ex, ep]
    have := (labels_len (lowD a)).1
    rw [low_len] at this; omega
  have lw : w.length ≤ b.length + 1 := by
    rw [ew, eq]
    have := (labels_len (lowD b)).1
    rw [low_len] at this; omega
  rw [hB]
  refine ⟨fun y _ => 1 ≤ y.1 ∧ y.1 ≤ (w.length : Int) + 1 ∧ ∀ j : Nat, 1 ≤ j → (j : Int) < y.1 → j ≤ x.length ∧ x.getD (x.length - j) [] = w.getD (w.length - j) [], fun y _ => ((w.length : Int) + 1 - y.1).toNat, ⟨Int.le_refl 1, by simp only; omega, fun j h1 h2 => by simp only at h2; omega⟩, ?_⟩
  rintro ⟨i, u, _⟩ v _ ⟨i1, i2, hi⟩
  simp only at i1 i2 hi ⊢
  rw [wrapK ((x.length : Int) - i) (by omega) (by omega), wrapK ((w.length : Int) - i) (by omega) (by omega), wrapK (i + 1) (by omega) (by omega)]
  refine ⟨fun hle => ⟨fun h => ⟨h, h, by omega, by omega⟩, fun h => ⟨h, h, by omega, by omega⟩, fun h => ?_, fun h => ?_⟩, fun hgt => ?_⟩
  . symm
    rw [decide_eq_false_iff_not]
    intro hs
    have := (suf_at w x).1 hs i.toNat (by omega) (by omega)
    rcases h with h | h
    . omega
    . refine h ?_
      rw [show ((x.length : Int) - i).toNat = x.length - i.toNat by omega, show ((w.length : Int) - i).toNat = w.length - i.toNat by omega]
      exact this.2
  . simp only [Bool.or_eq_false_iff, decide_eq_false_iff_not, Decidable.not_not] at h
    refine ⟨⟨by omega, by omega, fun j j1 j2 => ?_⟩, by omega⟩
    by_cases e : (j : Int) < i
    . exact hi j j1 e
    . have e : j = i.toNat := by omega
      subst e
      refine ⟨by omega, ?_⟩
      have h2 := h.2
      rw [show ((x.length : Int) - i).toNat = x.length - i.toNat by omega, show ((w.length : Int) - i).toNat = w.length - i.toNat by omega] at h2
      exact h2
  . symm
    rw [decide_eq_true_eq]
    exact (suf_at w x).2 fun j j1 j2 => hi j j1 (by omega)
theorem h9 : c_r14_Below.ok Tryz.prog GL 9 := conO_ok (H := {}) (mkEnvO_ok (gl := GL) (l := [(28, conSem c_r13_DNS), (29, conSem c_r13_Labels), (30, conSem c_r13_Small)]) (q := []) (d := []) _ [1000000] tyOk (by kernel_rfl) ⟨h28.call, h29.call, h30.call, trivial⟩ trivial trivial) (by kernel_rfl) (by kernel_rfl) (Eq.mp e9 k9)
end Go.Proofs.YtgnlcpoeepfdoaaGreatDoor
end
section
namespace Go.Proofs.YtgnlcpoeepfdoaaGreatDoor
open Go Go.Vc Go.Pl Go.Proofs
def c_law14_there : Con := { args := [], res := [.dat .bool], pre := fun _ => True, post := fun _ y => y.1 = true }
end Go.Proofs.YtgnlcpoeepfdoaaGreatDoor
end
section
namespace Go.Proofs.YtgnlcpoeepfdoaaGreatDoor
open Go Go.Vc Go.Pl Go.Proofs
set_option linter.unusedVariables false
set_option linter.unusedSimpArgs false
theorem there1 : belowD (bs { data := #[120, 46, 97, 46, 98] }) (bs { data := #[97, 46, 98] }) = true := by decide +kernel
theorem there2 : belowD (bs { data := #[120, 97, 46, 98] }) (bs { data := #[97, 46, 98] }) = false := by decide +kernel
abbrev q226 := (bs { data := #[(120 : UInt8), q231, (97 : UInt8), q231, (98 : UInt8)] })
abbrev q227 := (bs { data := #[(97 : UInt8), q231, (98 : UInt8)] })
def t20 : Prop :=
  ∀ (x : Unit), True -> True -> ((5 : Nat) <= q88 /\ (3 : Nat) <= q88) /\ (∀ (y : q4), (q34 y) -> y.1 = belowD q226 q227 -> (y.1 = true -> ((4 : Nat) <= q88 /\ (3 : Nat) <= q88) /\ (∀ (y :
  q4), (q34 y) -> y.1 = belowD (bs { data := #[(120 : UInt8), (97 : UInt8), q231, (98 : UInt8)] }) q227 -> (!y.1) = true) /\ True) /\ (y.1 = !true -> false = true)) /\ True
theorem e20 : t20 = Con.vc c_law14_there GL (mkEnv ty [(8, conSem c_within_Below)] [] [] [0]) {} Tryz.f20.ntmps Tryz.f20.results.toList (bodyOf Tryz.f20) := by kernel_rfl
theorem k20 : t20 := by
  unfold t20
  delta q88 q4 q34 q226 q227 q231 wbZ
  rintro _ hx hp
  try dsimp +instances only [dft_int, dft_sl, dft_str]
  simp only [true_and, and_true, eq_self_iff_true, implies_true, reduceCtorEq, false_implies, true_implies, decide_eq_true_eq, decide_eq_false_iff_not, beq_self_eq_true, Bool.not_eq_true', ne_eq, Decidable.not_not, List.nil_append, List.length_singleton, List.length_cons, List.length_nil, Nat.zero_add, Nat.add_zero, Nat.mul_one, and_self, beq_iff_eq, Bool.not_true, Bool.not_false, Bool.not_eq_false', Bool.cond_false_right, Bool.and_eq_true, imp_self, Bool.not_eq_true, Bool.cond_true_left, Bool.or_eq_true]
  refine ⟨⟨by decide, by decide⟩, ?_⟩
  rintro ⟨y, _⟩ _ ey
  simp only at ey ⊢
  rw [there1] at ey
  refine ⟨fun _ => ⟨⟨by decide, by decide⟩, ?_⟩, fun h => by rw [ey] at h; cases h⟩
  rintro ⟨z, _⟩ _ ez
  rw [there2] at ez
  exact ez
theorem h20 : c_law14_there.ok Tryz.prog GL 20 := con_ok (H := {}) (mkEnv_ok (gl := GL) (l := [(8, conSem c_within_Below)]) (q := []) (d := []) _ tyOk (by kernel_rfl) ⟨h8.call, trivial⟩ trivial trivial) (by kernel_rfl) (by kernel_rfl) (Eq.mp e20 k20)
end Go.Proofs.YtgnlcpoeepfdoaaGreatDoor
end
section
namespace Go.Proofs.YtgnlcpoeepfdoaaGreatDoor
open Go Go.Vc Go.Pl Go.Proofs
def c_law14_names : Con := { args := [], res := [.dat .bool], pre := fun _ => True, post := fun _ y => y.1 = true }
def c_law14_works : Con := { args := [], res := [.dat .bool], pre := fun _ => True, post := fun _ y => y.1 = true }
def c_law14_WithinBelow : Con := { args := [.dat .str, .dat .str], res := [.dat .bool], pre := fun x => ABulk [.dat .str, .dat .str] x ≤ 1048576, post := fun _ y => y.1 = true }
end Go.Proofs.YtgnlcpoeepfdoaaGreatDoor
end
section
namespace Go.Proofs.YtgnlcpoeepfdoaaGreatDoor
open Go Go.Vc Go.Pl Go.Proofs
set_option linter.unusedVariables false
set_option linter.unusedSimpArgs false
set_option maxRecDepth 20000
theorem works1 : allT (2, bs { data := #[97, 46, 98] }) (2, bs { data := #[120, 46, 97, 46, 98] }) = true := by decide +kernel
def t31 : Prop :=
  ∀ (x : Unit), True -> True -> true = true
theorem e31 : t31 = Con.vc c_law14_names GL (mkEnv ty [] [] [] [0]) {} Tryz.f31.ntmps Tryz.f31.results.toList (bodyOf Tryz.f31) := by kernel_rfl
theorem k31 : t31 := by
  unfold t31
  intro _ _ _
  first | rfl | decide
theorem h31 : c_law14_names.ok Tryz.prog GL 31 := con_ok (H := {}) (mkEnv_ok (gl := GL) (l := []) (q := []) (d := []) _ tyOk (by kernel_rfl) trivial trivial trivial) (by kernel_rfl) (by kernel_rfl) (Eq.mp e31 k31)
def t10 : Prop :=
  ∀ (x : Unit), True -> True -> ((5 : Nat) <= q88 /\ (3 : Nat) <= q88) /\ (∀ (y : q4), (q34 y) -> y.1 = belowD q226 q227 -> (y.1 = true -> ((3 : Nat) <= q83 /\ (5 : Nat) <= q83) /\ (∀ (y :
  q4), (q34 y) -> y.1 = allT (q60, bs { data := #[(97 : UInt8), q231, (98 : UInt8)] }) (q60, bs { data := #[(120 : UInt8), q231, (97 : UInt8), q231, (98 : UInt8)] }) -> (y.1 = true -> True /\
  (∀ (y : q4), (q34 y) -> y.1 = true -> y.1 = true) /\ True) /\ (y.1 = !true -> false = true)) /\ True) /\ (y.1 = !true -> false = true)) /\ True
theorem e10 : t10 = Con.vc c_law14_works GL (mkEnv ty [(8, conSem c_within_Below), (13, conSem c_within_All), (31, conSem c_law14_names)] [] [] [0]) {} Tryz.f10.ntmps Tryz.f10.results.toList (bodyOf Tryz.f10) := by kernel_rfl
theorem k10 : t10 := by
  unfold t10
  delta q88 q4 q34 q226 q227 q83 q60 q231 wbZ
  rintro _ hx hp
  try dsimp +instances only [dft_int, dft_sl, dft_str]
  simp only [true_and, and_true, eq_self_iff_true, implies_true, reduceCtorEq, false_implies, true_implies, decide_eq_true_eq, decide_eq_false_iff_not, beq_self_eq_true, Bool.not_eq_true', ne_eq, Decidable.not_not, List.nil_append, List.length_singleton, List.length_cons, List.length_nil, Nat.zero_add, Nat.add_zero, Nat.mul_one, and_self, beq_iff_eq, Bool.not_true, Bool.not_false, Bool.not_eq_false', Bool.cond_false_right, Bool.and_eq_true, imp_self, Bool.not_eq_true, Bool.cond_true_left, Bool.or_eq_true]
  refine ⟨⟨by decide, by decide⟩, ?_⟩
  rintro ⟨y, _⟩ _ ey
  simp only at ey ⊢
  rw [there1] at ey
  refine ⟨fun _ => ⟨⟨by decide, by decide⟩, ?_⟩, fun h => by rw [ey] at h; cases h⟩
  rintro ⟨z, _⟩ _ ez h
  simp only at ez h
  rw [ez, works1] at h
  cases h
theorem h10 : c_law14_works.ok Tryz.prog GL 10 := con_ok (H := {}) (mkEnv_ok (gl := GL) (l := [(8, conSem c_within_Below), (13, conSem c_within_All), (31, conSem c_law14_names)]) (q := []) (d := []) _ tyOk (by kernel_rfl) ⟨h8.call, h13.call, h31.call, trivial⟩ trivial trivial) (by kernel_rfl) (by kernel_rfl) (Eq.mp e10 k10)
def t3 : Prop :=
  ∀ (x : q2), (q21 x) -> ABulk [AK.dat Kd.str, AK.dat Kd.str] x <= (1048576 : Nat) -> (List.length x.1 <= q88 /\ List.length x.2.1 <= q88) /\ (∀ (y : q4), (q34 y) -> y.1 = belowD x.1 x.2.1 ->
  (List.length x.1 <= q83 /\ List.length x.2.1 <= q83) /\ (∀ (y_1 : q4), (q34 y_1) -> y_1.1 = belowD x.1 x.2.1 -> (decide (y.1 = y_1.1) = true -> True) /\ (decide (y.1 = y_1.1) = true ->
  True) /\ (decide (y.1 = y_1.1) = true -> (decide (y.1 = y_1.1) == true) = true /\ (decide (y.1 = y_1.1) == true) = true /\ (List.length x.2.1 <= q88 /\ List.length x.1 <= q88) /\ (∀ (y :
  q4), (q34 y) -> y.1 = belowD x.2.1 x.1 -> (List.length x.2.1 <= q83 /\ List.length x.1 <= q83) /\ (∀ (y_2 : q4), (q34 y_2) -> y_2.1 = belowD x.2.1 x.1 -> (decide (y.1 = y_2.1) = true ->
  True /\ (∀ (y : q4), (q34 y) -> y.1 = true -> y.1 = true) /\ True) /\ (decide (y.1 = y_2.1) = !true -> false = true)) /\ True) /\ True) /\ (decide (y.1 = y_1.1) = !true -> false = true)) /\
  True) /\ True
theorem e3 : t3 = Con.vc c_law14_WithinBelow GL (mkEnvO ty [(8, conSem c_within_Below), (9, conSem c_r14_Below), (10, conSem c_law14_works)] [] [] [0, 1, 4] [1000000]) {} Tryz.f3.ntmps Tryz.f3.results.toList (bodyOf Tryz.f3) := by kernel_rfl
theorem k3 : t3 := by
  unfold t3
  delta q2 q21 q88 q4 q34 q83 wsZ wbZ
  rintro ⟨a, b, _⟩ hx hp
  have hl : a.length ≤ 100000000 ∧ b.length ≤ 100000000 := by
    simp [ABulk, AK.bulk, Kd.bulk] at hp
    omega
  obtain ⟨ha, hb⟩ := hl
  clear hp hx
  try dsimp +instances only [dft_int, dft_sl, dft_str]
  simp only [true_and, and_true, eq_self_iff_true, implies_true, reduceCtorEq, false_implies, true_implies, decide_eq_true_eq, decide_eq_false_iff_not, beq_self_eq_true, Bool.not_eq_true', ne_eq, Decidable.not_not, List.nil_append, List.length_singleton, List.length_cons, List.length_nil, Nat.zero_add, Nat.add_zero, Nat.mul_one, and_self, beq_iff_eq, Bool.not_true, Bool.not_false, Bool.not_eq_false', Bool.cond_false_right, Bool.and_eq_true, imp_self, Bool.not_eq_true, Bool.cond_true_left, Bool.or_eq_true]
  simp only [all_bool]
  exact ⟨⟨by omega, by omega⟩, ⟨ha, hb⟩, fun _ => ⟨trivial, trivial, ⟨by omega, by omega⟩, ⟨hb, ha⟩, fun h => absurd trivial h⟩, fun h => absurd trivial h⟩
theorem h3 : c_law14_WithinBelow.ok Tryz.prog GL 3 := conO_ok (H := {}) (mkEnvO_ok (gl := GL) (l := [(8, conSem c_within_Below), (9, conSem c_r14_Below), (10, conSem c_law14_works)]) (q := []) (d := []) _ [1000000] tyOk (by kernel_rfl) ⟨h8.call, h9.call, h10.call, trivial⟩ trivial trivial) (by kernel_rfl) (by kernel_rfl) (Eq.mp e3 k3)
end Go.Proofs.YtgnlcpoeepfdoaaGreatDoor
end
section
namespace Go.Proofs.YtgnlcpoeepfdoaaGreatDoor
open Go Go.Vc Go.Pl Go.Proofs
set_option maxRecDepth 100000 in
theorem glOk {w : World} (hL : laidMetH Tryz.prog [("unicode/utf8.acceptRanges", Rows.laid_unicode_utf8_acceptRanges), ("unicode/utf8.first", Rows.laid_unicode_utf8_first)] w) (hS : w.ShapedOpen Tryz.prog) : GlOk GL w (fun _ => False) := by
  have hL : laidMet Tryz.prog [("unicode/utf8.acceptRanges", Rows.laid_unicode_utf8_acceptRanges), ("unicode/utf8.first", Rows.laid_unicode_utf8_first)] w := hL
  have h0 := Lib.laidMet.reads hL (n := "unicode/utf8.first") (d := Rows.laid_unicode_utf8_first) (by simp)
  have h1 := Lib.laidMet.reads hL (n := "unicode/utf8.acceptRanges") (d := Rows.laid_unicode_utf8_acceptRanges) (by simp)
  obtain ⟨m, hm⟩ := Tryz.laysM219.s1_3 w hS
  have hm : w.cell? ⟨0, 0, none⟩ = some (.int .i64 m) := hm
  obtain ⟨fs, hs, hf, ho⟩ := pairB_eq (P := Tryz.prog) (e := 141) (k := .u8) (by kernel_rfl)
  have k0 := gl_ints (P := Tryz.prog) (w := w) (g := 1) (t := 139) (e := 5) (n := 256) (k := .u8) (zs := Lib.firstTab) (by kernel_rfl) (by kernel_rfl) (by kernel_rfl) (by kernel_rfl) (by kernel_rfl) (by kernel_rfl) (by kernel_rfl) (of_decide_eq_true (by kernel_rfl)) (by kernel_rfl) h0
  have k1 := gl_pairs (P := Tryz.prog) (w := w) (g := 2) (t := 142) (e := 141) (n := 16) (k := .u8) (zs := accTab) (by kernel_rfl) (by kernel_rfl) (by kernel_rfl) hs hf ho (by kernel_rfl) (by kernel_rfl) (by kernel_rfl) (of_decide_eq_true (by kernel_rfl)) (by kernel_rfl) (by kernel_rfl) h1
  intro g v hg
  rcases gl_cons hg with ⟨rfl, rfl⟩ | hg
  . exact k0
  rcases gl_cons hg with ⟨rfl, rfl⟩ | hg
  . exact k1
  obtain ⟨rfl, rfl⟩ := gl_one hg
  exact ⟨cell_lt hm, id, m, hm⟩
end Go.Proofs.YtgnlcpoeepfdoaaGreatDoor
end
section
namespace Go.Proofs.YtgnlcpoeepfdoaaGreatDoor
open Go Go.Vc Go.Pl Go.Proofs
end Go.Proofs.YtgnlcpoeepfdoaaGreatDoor
end
