/- Texts of a verified walk, led together: Within2A, Within2W, R14A, R14W, Law14aA, Law14aW, Law14cA, Law14cW, R14bA, R14bW, Law14dA, Law14dW, Law14eA, Law14eW. -/
import Derived.Test.YtgnlcpoeepfdoaaGreatDoorZW09
import Derived.Test.YtgnlcpoeepfdoaaGreatDoorZV15
set_option linter.unusedVariables false
set_option linter.unusedSimpArgs false
section
namespace Go.Proofs.YtgnlcpoeepfdoaaGreatDoor
open Go Go.Vc Go.Pl Go.Proofs
def c_stringslite_TrimPrefix : Con := { args := [.dat .str, .dat .str], res := [.dat .str], pre := fun _ => True, post := fun x y => y.1 = if hasP x.2.1 x.1 then x.1.drop x.2.1.length else x.1 }
def c_strings_TrimPrefix : Con := { args := [.dat .str, .dat .str], res := [.dat .str], pre := fun _ => True, post := fun x y => y.1 = if hasP x.2.1 x.1 then x.1.drop x.2.1.length else x.1 }
def c_within_mask : Con := { args := [.dat .str], res := [.dat .bool], pre := fun x => x.1.length ≤ 1000000000, post := fun x y => y.1 = maskD x.1 }
def c_within_tree_email : Con := { args := [.dat GT, .dat .str], res := [.dat .bool], pre := fun x => x.1.2.length ≤ 100000000 ∧ x.2.1.length ≤ 100000000, post := fun x y => y.1 = mailT x.1.2 x.2.1 }
def c_within_tree_dns : Con := { args := [.dat GT, .dat .str], res := [.dat .bool], pre := fun x => x.1.2.length ≤ 100000000 ∧ x.2.1.length ≤ 100000000, post := fun x y => y.1 = belowD x.2.1 x.1.2 }
def c_within_tree_name : Con := { args := [.dat GT, .dat .str], res := [.dat .bool], pre := fun x => x.1.2.length ≤ 100000000 ∧ x.2.1.length ≤ 100000000 ∧ namedD x.1.2 = true ∧ namedD x.2.1 = true, post := fun x y => y.1 = beginsD (guessD x.2.1) (guessD x.1.2) }
def c_within_tree_ip : Con := { args := [.dat GT, .dat .str], res := [.dat .bool], pre := fun x => x.1.2.length ≤ 100000000 ∧ x.2.1.length ≤ 100000000 ∧ maskD x.1.2 = true, post := fun x y => y.1 = ipT x.1.2 x.2.1 }
def asksN (k : Int) : Nat := if k = 1 then 62 + 1 else if k = 2 then 63 + 1 else if k = 4 then 64 + 1 else if k = 7 then 65 + 1 else 0
def c_within_asks : Con := { args := [.dat I64], res := [.dat .fn], pre := fun _ => True, post := fun x y => y.1 = asksN x.1 }
def c_within_May : Con := { args := [.dat GT], res := [.dat .bool], pre := fun x => x.1.2.length ≤ 100000000, post := fun x y => y.1 = mayT x.1.1 x.1.2 }
def c_within_All : Con := { args := [.dat GT, .dat GT], res := [.dat .bool], pre := fun x => x.1.2.length ≤ 100000000 ∧ x.2.1.2.length ≤ 100000000, post := fun x y => y.1 = allT x.1 x.2.1 }
def c_within_Some : Con := { args := [.dat GT, .dat GT], res := [.dat .bool], pre := fun x => x.1.2.length ≤ 100000000 ∧ x.2.1.2.length ≤ 100000000, post := fun x y => y.1 = someT x.1 x.2.1 }
end Go.Proofs.YtgnlcpoeepfdoaaGreatDoor
end
section
namespace Go.Proofs.YtgnlcpoeepfdoaaGreatDoor
open Go Go.Vc Go.Pl Go.Proofs
set_option linter.unusedVariables false
set_option linter.unusedSimpArgs false
set_option maxRecDepth 20000
theorem and8 {a b : Int} (ha : 0 ≤ a ∧ a ≤ 255) (hb : 0 ≤ b ∧ b ≤ 255) : IntKind.u8.wrap ↑(BitVec.ofInt 8 a &&& BitVec.ofInt 8 b).toNat = ((a.toNat &&& b.toNat : Nat) : Int) := by
  obtain ⟨n, rfl⟩ : ∃ n : Nat, a = n := ⟨a.toNat, by omega⟩
  obtain ⟨m, rfl⟩ : ∃ n : Nat, b = n := ⟨b.toNat, by omega⟩
  rw [wrap_u8m, BitVec.toNat_and, BitVec.ofInt_natCast, BitVec.ofInt_natCast, BitVec.toNat_ofNat, BitVec.toNat_ofNat, Nat.mod_eq_of_lt (by omega), Nat.mod_eq_of_lt (by omega), Int.toNat_natCast, Int.toNat_natCast]
  have : n &&& m < 2 ^ 8 := Nat.and_lt_two_pow n (show m < 2 ^ 8 by omega)
  omega
theorem bit_val {a : Int} (ha : 0 ≤ a ∧ a ≤ 255) {r : Nat} (hr : r ≤ 7) : IntKind.u8.wrap ↑(BitVec.ofInt 8 (a.fdiv (2 ^ min r 8)) &&& BitVec.ofInt 8 1).toNat = a / 2 ^ r % 2 := by
  have key : ∀ a : Fin 256, ∀ r : Fin 8, IntKind.u8.wrap ↑(BitVec.ofInt 8 ((a.val : Int).fdiv (2 ^ min r.val 8)) &&& BitVec.ofInt 8 1).toNat = (a.val : Int) / 2 ^ r.val % 2 := by decide +kernel
  have := key ⟨a.toNat, by omega⟩ ⟨r, by omega⟩
  simpa [Int.toNat_of_nonneg ha.1] using this
abbrev q36 := (Int × Bool × Bool × Unit)
abbrev q37 := ((Int × List Int) × List Int × Unit)
abbrev q38 := (Int × Bool × Unit -> Unit × Unit -> Prop)
abbrev q39 := (Int × Bool × Unit -> Unit × Unit -> Nat)
abbrev q40 := ((Int × List Int) × (Int × List Int) × Unit)
abbrev q596 (p0 : q6) := (Int.tdiv (lnZ p0.1) (2 : Int))
abbrev q593 (p0 : q6) (p1 : q36) := (BitVec.toNat (BitVec.ofInt (8 : Nat) (Int.fdiv (List.getD p0.1 (Int.toNat (wrZ (wrZ (q596 p0) + wrZ (Int.tdiv p1.1 (8 : Int))))) (0 : Int)) ((2 : Int) ^
  min (Int.toNat (wrZ ((7 : Int) - Int.tmod p1.1 (8 : Int)))) (8 : Nat))) &&& BitVec.ofInt (8 : Nat) (1 : Int)))
abbrev q589 (p0 : q6) (p1 : q36) := (↑(q593 p0 p1) : Int)
abbrev q579 (p0 : q6) (p1 : q36) := (bif decide (IntKind.wrap IntKind.u8 (q589 p0 p1) = (1 : Int)) then p1.2.1 else false)
abbrev q545 (p0 : q6) (p1 : q36) := ((q579 p0 p1) == false && (q579 p0 p1) == false)
abbrev q580 (p0 : q6) (p1 : q36) := (IntKind.wrap IntKind.u8 (q589 p0 p1) = (1 : Int))
abbrev q546 (p0 : q6) (p1 : q36) := (!decide (q580 p0 p1))
abbrev q544 (p0 : q6) (p1 : q36) := ((q579 p0 p1) == false && (q579 p0 p1) == false && (!decide (q580 p0 p1)) == true)
abbrev q365 (p0 : q6) (p1 : q36) := ((q545 p0 p1) = true -> (q546 p0 p1) = true -> (q544 p0 p1) = true /\ (8 : Int) ≠ q452 /\ True)
abbrev q366 (p0 : q6) (p1 : q36) := ((q545 p0 p1) = true -> (q546 p0 p1) = true -> (q544 p0 p1) = true /\ True)
abbrev q367 (p0 : q6) (p1 : q36) := ((q545 p0 p1) = true -> (q546 p0 p1) = true -> True)
abbrev q547 (p0 : q6) (p1 : q36) := (bif decide (q580 p0 p1) then p1.2.1 else false)
abbrev q368 (p0 : q6) (p1 : q36) := ((q547 p0 p1) == false && (q547 p0 p1) == false && (q546 p0 p1) == true)
abbrev q571 (p0 : q6) (p1 : q36) := (↑(q593 p0 p1) : Int)
abbrev q548 (p0 : q6) (p1 : q36) := (IntKind.wrap IntKind.u8 (q571 p0 p1) = (1 : Int))
abbrev q369 (p0 : q6) (p1 : q36) := (bif bif decide (q548 p0 p1) then p1.2.1 else false then true else bif !decide (q548 p0 p1) then decide (IntKind.wrap IntKind.u8 (↑(BitVec.toNat
  (BitVec.ofInt q554 (Int.fdiv (List.getD p0.1 (Int.toNat (wrZ (Int.tdiv p1.1 (8 : Int)))) q452) ((2 : Int) ^ min (Int.toNat (wrZ ((7 : Int) - Int.tmod p1.1 (8 : Int)))) (8 : Nat))) &&&
  BitVec.ofInt q554 q491)) : Int) = q491) else false)
abbrev q370 (p0 : q6) (p1 : q36) := ((q547 p0 p1) == false && (q547 p0 p1) == false)
abbrev q371 (p0 : q6) (p1 : q36) := ((q547 p0 p1) = false -> True)
abbrev q372 (p0 : q6) (p1 : q36) := ((q547 p0 p1) == false)
abbrev q373 (p0 : q6) (p1 : q36) := (bif decide (q548 p0 p1) then p1.2.1 else false)
abbrev q374 (p0 : q6) (p1 : q36) := (!decide (q548 p0 p1))
abbrev q375 (p0 : q6) (p1 : q36) := (IntKind.wrap IntKind.u8 (q571 p0 p1) = q491)
abbrev q376 (p0 : q6) := ((8 : Int) * wrZ (q596 p0))
abbrev q377 (p0 : q3) (p1 : q3) := (List.length p0.2.1 <= (1000000000 : Nat) /\ List.length p1.2.1 <= (1000000000 : Nat))
abbrev q378 (p0 : q37) := (cutD q536 p0.2.1)
abbrev q379 (p0 : q37) := (cutD q536 p0.1.2)
abbrev q380 (p0 : q37) := (Kd.wf q489 p0.1 /\ wsZ p0.2.1 /\ True)
abbrev q381 (p0 : q37) (p1 : q10) := (IntKind.wrap IntKind.u8 (↑(BitVec.toNat (BitVec.ofInt q554 (List.getD p0.2.1 (q507 p1) q452) &&& BitVec.ofInt q554 (List.getD p0.1.2 (Int.toNat (wrZ
  (wrZ (Int.tdiv (lnZ p0.1.2) q500) + p1.1))) q452))) : Int) ≠ List.getD p0.1.2 (q507 p1) q452)
abbrev q382 (p0 : q37) := ((lnZ p0.2.1) ≠ wrZ (Int.tdiv (lnZ p0.1.2) q500))
abbrev q383 (p0 : q37) := (Int.tdiv (lnZ p0.1.2) q500)
abbrev q549 := (wrZ (wrZ (q557 + (1 : Int)) + (1 : Int)) + (1 : Int))
abbrev q384 := (wrZ (wrZ q549 + q491) < (↑(4 : Nat) : Int))
abbrev q385 := (wrZ q549 < (↑(4 : Nat) : Int))
abbrev q386 := (wrZ q549 + q491)
abbrev q387 := (wrZ (wrZ (q557 + (1 : Int)) + (1 : Int)) + q491)
abbrev q388 := (wrZ (q452 + q491) + q491)
abbrev q389 := (q452 + q491)
abbrev q390 := (↑(4 : Nat) : Int)
abbrev q391 (p0 : q22) := (decide (p0.1.1 = q500) = true -> List.length p0.1.2 <= (1000000000 : Nat) /\ (∀ (y : q4), (wbZ y.1 /\ True) -> y.1 = dnsD p0.1.2 -> y.1 = mayT p0.1.1 p0.1.2) /\
  True)
abbrev q493 (p0 : Nat × Unit) (p1 : q40) (p2 : q6) := ((p0.1 = (63 : Nat) \/ p0.1 = (64 : Nat) \/ p0.1 = (65 : Nat) \/ p0.1 = (66 : Nat) \/ False) /\ (p0.1 = (63 : Nat) -> (List.length
  p1.1.2 <= q573 /\ List.length p2.1 <= q573) /\ (∀ (y : q4), (wbZ y.1 /\ True) -> y.1 = mailT p1.1.2 p2.1 -> y.1 = allT p1.1 p1.2.1) /\ True) /\ (p0.1 = (64 : Nat) -> (List.length p1.1.2 <=
  q573 /\ List.length p2.1 <= q573) /\ (∀ (y : q4), (wbZ y.1 /\ True) -> y.1 = belowD p2.1 p1.1.2 -> y.1 = allT p1.1 p1.2.1) /\ True) /\ (p0.1 = (65 : Nat) -> (List.length p1.1.2 <= q573 /\
  List.length p2.1 <= q573 /\ namedD p1.1.2 = true /\ namedD p2.1 = true) /\ (∀ (y : q4), (wbZ y.1 /\ True) -> y.1 = beginsD (guessD p2.1) (guessD p1.1.2) -> y.1 = allT p1.1 p1.2.1) /\ True)
  /\ (p0.1 = (66 : Nat) -> (List.length p1.1.2 <= q573 /\ List.length p2.1 <= q573 /\ maskD p1.1.2 = true) /\ (∀ (y : q4), (wbZ y.1 /\ True) -> y.1 = ipT p1.1.2 p2.1 -> y.1 = allT p1.1
  p1.2.1) /\ True) /\ True)
abbrev q392 (p0 : q40) (p1 : q6) := ((True /\ (∀ (y : Nat × Unit), (Kd.wf Kd.fn y.1 /\ True) -> y.1 = asksN p0.1.1 -> (q493 y p0 p1) /\ True) /\ True) /\ True)
abbrev q393 (p0 : q40) := (Kd.wf q489 p0.1 /\ Kd.wf q489 p0.2.1 /\ True)
def t57 : Prop :=
  ∀ (x : q2), (q53 x) -> True -> True /\ (∀ (y : q4), (q67 y) -> y.1 = hasP x.2.1 x.1 -> (y.1 = true -> (q452 <= (lnZ x.2.1) /\ (lnZ x.2.1) <= (lnZ x.1)) /\ List.drop (Int.toNat (lnZ x.2.1))
  x.1 = if hasP x.2.1 x.1 = true then List.drop (List.length x.2.1) x.1 else x.1) /\ (y.1 = false -> x.1 = if hasP x.2.1 x.1 = true then List.drop (List.length x.2.1) x.1 else x.1)) /\ True
theorem e57 : t57 = Con.vc c_stringslite_TrimPrefix GL (mkEnv ty [(89, conSem c_stringslite_HasPrefix)] [] [] [0, 1, 4, 7]) {} Tryz.f57.ntmps Tryz.f57.results.toList (bodyOf Tryz.f57) := by kernel_rfl
theorem k57 : t57 := by
  unfold t57
  delta q2 q53 q4 q67 q452 lnZ wsZ wbZ
  rintro ⟨l, c, _⟩ hx hp
  try dsimp +instances only [dft_int, dft_sl, dft_str]
  simp only [true_and, and_true, eq_self_iff_true, implies_true, reduceCtorEq, false_implies, true_implies, decide_eq_true_eq, decide_eq_false_iff_not, beq_self_eq_true, Bool.not_eq_true', ne_eq, Decidable.not_not, List.nil_append, List.length_singleton, List.length_cons, List.length_nil, Nat.zero_add, Nat.add_zero, Nat.mul_one, and_self, beq_iff_eq, Bool.not_true, Bool.not_false, Bool.not_eq_false', Bool.cond_false_right, Bool.and_eq_true, imp_self, Bool.not_eq_true, Bool.cond_true_left, Bool.or_eq_true]
  rintro ⟨y, _⟩ _ ey
  simp only at ey ⊢
  refine ⟨fun h => ?_, fun h => by rw [← ey, h]; rfl⟩
  have hq := ey.symm.trans h
  rw [← ey, h]
  unfold hasP at hq
  have := congrArg List.length (of_decide_eq_true hq)
  rw [List.length_take] at this
  exact ⟨⟨by omega, by omega⟩, by simp⟩
theorem h57 : c_stringslite_TrimPrefix.ok Tryz.prog GL 57 := con_ok (H := {}) (mkEnv_ok (gl := GL) (l := [(89, conSem c_stringslite_HasPrefix)]) (q := []) (d := []) _ tyOk (by kernel_rfl) ⟨h89.call, trivial⟩ trivial trivial) (by kernel_rfl) (by kernel_rfl) (Eq.mp e57 k57)
def t33 : Prop :=
  ∀ (x : q2), (q53 x) -> True -> True /\ (∀ (y : q6), (q88 y) -> (y.1 = if hasP x.2.1 x.1 = true then List.drop (List.length x.2.1) x.1 else x.1) -> y.1 = if hasP x.2.1 x.1 = true then
  List.drop (List.length x.2.1) x.1 else x.1) /\ True
theorem e33 : t33 = Con.vc c_strings_TrimPrefix GL (mkEnv ty [(57, conSem c_stringslite_TrimPrefix)] [] [] [0, 1, 4]) {} Tryz.f33.ntmps Tryz.f33.results.toList (bodyOf Tryz.f33) := by kernel_rfl
theorem k33 : t33 := by
  unfold t33
  delta q2 q53 q6 q88 wsZ
  rintro ⟨l, c, _⟩ hx hp
  try dsimp +instances only [dft_int, dft_sl, dft_str]
  simp only [true_and, and_true, eq_self_iff_true, implies_true, reduceCtorEq, false_implies, true_implies, decide_eq_true_eq, decide_eq_false_iff_not, beq_self_eq_true, Bool.not_eq_true', ne_eq, Decidable.not_not, List.nil_append, List.length_singleton, List.length_cons, List.length_nil, Nat.zero_add, Nat.add_zero, Nat.mul_one, and_self, beq_iff_eq, Bool.not_true, Bool.not_false, Bool.not_eq_false', Bool.cond_false_right, Bool.and_eq_true, imp_self, Bool.not_eq_true, Bool.cond_true_left, Bool.or_eq_true]
theorem h33 : c_strings_TrimPrefix.ok Tryz.prog GL 33 := con_ok (H := {}) (mkEnv_ok (gl := GL) (l := [(57, conSem c_stringslite_TrimPrefix)]) (q := []) (d := []) _ tyOk (by kernel_rfl) ⟨h57.call, trivial⟩ trivial trivial) (by kernel_rfl) (by kernel_rfl) (Eq.mp e33 k33)
def t34 : Prop :=
  ∀ (x : q6), (q88 x) -> List.length x.1 <= q103 -> (decide ((lnZ x.1) ≠ q168) = true -> True) /\ (decide ((lnZ x.1) ≠ q168) = true -> (decide ((lnZ x.1) ≠ q168) == true) = true /\ True) /\
  (decide ((lnZ x.1) ≠ q168) = true -> (decide ((lnZ x.1) ≠ q168) == true) = true /\ True) /\ (decide ((lnZ x.1) ≠ q168) = true -> (decide ((lnZ x.1) ≠ q168) == true) = true) /\ ((bif decide
  ((lnZ x.1) ≠ q168) then decide ((lnZ x.1) ≠ (32 : Int)) else false) = true -> false = maskD x.1) /\ ((bif decide ((lnZ x.1) ≠ q168) then decide ((lnZ x.1) ≠ (32 : Int)) else false) = false
  -> q94 ≠ q56 /\ ∃ (I : Int × Bool × Bool × Unit -> Unit -> Prop), ∃ (μ : Int × Bool × Bool × Unit -> Unit -> Nat), (wrZ (q376 x) = wrZ (q376 x) /\ wrZ (q596 x) = wrZ (q596 x) /\ Value.bool
  false = Value.bool false /\ x.1 = x.1 /\ I (q56, false, false, ()) ()) /\ ∀ (y : q36) (z : Unit), (wiZ y.1 /\ wbZ y.2.1 /\ wbZ y.2.2.1 /\ True) -> True -> I y z -> (decide (y.1 < wrZ (q376
  x)) = true -> q168 ≠ q56 /\ (q56 <= wrZ (wrZ (q596 x) + wrZ (Int.tdiv y.1 (8 : Int))) /\ wrZ (wrZ (q596 x) + wrZ (Int.tdiv y.1 (8 : Int))) < (lnZ x.1)) /\ q168 ≠ q56 /\ q56 <= wrZ ((7 :
  Int) - Int.tmod y.1 (8 : Int)) /\ (decide (q375 x y) = true -> True) /\ (decide (q375 x y) = true -> (decide (q375 x y) == true) = true) /\ (q371 x y) /\ ((q373 x y) = false -> (q372 x y) =
  true /\ True) /\ (q371 x y) /\ (q367 x y) /\ (q367 x y) /\ (q365 x y) /\ ((q370 x y) = true -> (q374 x y) = true -> (q368 x y) = true /\ (q368 x y) = true /\ (q56 <= wrZ (Int.tdiv y.1 (8 :
  Int)) /\ wrZ (Int.tdiv y.1 (8 : Int)) < (lnZ x.1)) /\ True) /\ (q367 x y) /\ (q365 x y) /\ (q366 x y) /\ ((q370 x y) = true -> (q374 x y) = true -> (q368 x y) = true /\ (q368 x y) = true /\
  q56 <= wrZ ((7 : Int) - Int.tmod y.1 (8 : Int)) /\ True) /\ (q366 x y) /\ (q366 x y) /\ ((q373 x y) = false -> (q370 x y) = true /\ ((q374 x y) = true -> (q368 x y) = true) /\ True) /\
  ((q373 x y) = false -> (q372 x y) = true) /\ ((q369 x y) = true -> false = maskD x.1) /\ ((q369 x y) = false -> (y.2.1 = false -> True) /\ (y.2.1 = false -> (y.2.1 == false) = true /\ True)
  /\ (y.2.1 = false -> (y.2.1 == false) = true) /\ wrZ (q376 x) = wrZ (q376 x) /\ wrZ (q596 x) = wrZ (q596 x) /\ Value.bool false = Value.bool false /\ x.1 = x.1 /\ I (wrZ (y.1 + q92), bif
  y.2.1 then true else !decide (q375 x y), y.2.2.1, ()) () /\ μ (wrZ (y.1 + q92), bif y.2.1 then true else !decide (q375 x y), y.2.2.1, ()) () < μ y z)) /\ (decide (y.1 < wrZ (q376 x)) =
  false -> true = maskD x.1))
theorem e34 : t34 = Con.vc c_within_mask GL (mkEnvO ty [] [] [] [0, 2, 3, 4, 5, 6, 14, 19, 20, 21, 54] [1000000]) {} Tryz.f34.ntmps Tryz.f34.results.toList (bodyOf Tryz.f34) := by kernel_rfl
theorem k34 : t34 := by
  unfold t34
  delta q6 q88 q103 lnZ q168 q94 q56 wrZ q376 q596 q36 wiZ wbZ q375 q371 q373 q372 q367 q365 q370 q374 q368 q366 q369 q92 wsZ q571 q491 q547 q548 q545 q546 q544 q452 q554 q593 q580 q579 q589
  rintro ⟨s, _⟩ hx hp
  have hb : Bys s := str_bys hx.1
  have hp : s.length ≤ 1000000000 := hp
  clear hx
  try dsimp +instances only [dft_int, dft_sl, dft_str]
  simp only [true_and, and_true, eq_self_iff_true, implies_true, reduceCtorEq, false_implies, true_implies, decide_eq_true_eq, decide_eq_false_iff_not, beq_self_eq_true, Bool.not_eq_true', ne_eq, Decidable.not_not, List.nil_append, List.length_singleton, List.length_cons, List.length_nil, Nat.zero_add, Nat.add_zero, Nat.mul_one, and_self, beq_iff_eq, Bool.not_true, Bool.not_false, Bool.not_eq_false', Bool.cond_false_right, Bool.and_eq_true, imp_self, Bool.not_eq_true, Bool.cond_true_left, Bool.or_eq_true]
  refine ⟨fun h => ?_, fun h => ⟨by decide, ?_⟩⟩
  . rw [maskD, decide_eq_false (by omega)]; rfl
  have hL : s.length = 8 ∨ s.length = 32 := by simp at h; omega
  obtain ⟨n, hn, hL2⟩ : ∃ n : Nat, s.length / 2 = n ∧ s.length = 2 * n := ⟨s.length / 2, rfl, by omega⟩
  have hnb : n = 4 ∨ n = 16 := by omega
  have e1 : IntKind.i64.wrap ((s.length : Int).tdiv 2) = (n : Int) := by rw [Int.tdiv_eq_ediv_of_nonneg (by omega), wrapK _ (by omega) (by omega)]; omega
  have e2 : IntKind.i64.wrap (8 * (n : Int)) = 8 * n := wrapK _ (by omega) (by omega)
  simp only [e1, e2]
  have hM : maskD s = (List.range (8 * n)).all (okM (s.drop n) s) := by rw [maskD, decide_eq_true hL, hn, Bool.true_and]
  rw [hM]
  refine ⟨fun y _ => 0 ≤ y.1 ∧ y.1 ≤ 8 * (n : Int) ∧ (List.range y.1.toNat).all (okM (s.drop n) s) = true ∧ y.2.1 = (decide (0 < y.1) && !nbit (s.drop n) (y.1.toNat - 1)), fun y _ => (8 * (n : Int) - y.1).toNat, ⟨Int.le_refl 0, by simp only; omega, rfl, rfl⟩, ?_⟩
  rintro ⟨i, en, q, _⟩ z _ ⟨i0, i1, ha, he⟩
  simp only at i0 i1 ha he ⊢
  have e3 : IntKind.i64.wrap (i.tdiv 8) = i / 8 := by rw [Int.tdiv_eq_ediv_of_nonneg i0, wrapK _ (by omega) (by omega)]
  have e5 : IntKind.i64.wrap (7 - i.tmod 8) = 7 - i % 8 := by rw [Int.tmod_eq_emod_of_nonneg i0, wrapK _ (by omega) (by omega)]
  have e4 : IntKind.i64.wrap ((n : Int) + i / 8) = n + i / 8 := wrapK _ (by omega) (by omega)
  have e6 : IntKind.i64.wrap (i + 1) = i + 1 := wrapK _ (by omega) (by omega)
  have hr : (7 - i % 8).toNat ≤ 7 := by omega
  have b1 := bit_val (bys_gd hb ((n : Int) + i / 8).toNat) hr
  have b2 := bit_val (bys_gd hb (i / 8).toNat) hr
  simp only [e3, e4, e5, e6, b1, b2]
  have p1 : (s.getD ((n : Int) + i / 8).toNat 0 / 2 ^ (7 - i % 8).toNat % 2 = 1) ↔ nbit (s.drop n) i.toNat = true := by
    have hg : (s.drop n).getD (i.toNat / 8) 0 = s.getD ((n : Int) + i / 8).toNat 0 := by
      rw [List.getD_eq_getElem?_getD, List.getD_eq_getElem?_getD, List.getElem?_drop]
      congr 2
      omega
    rw [nbit, decide_eq_true_eq, hg, show (7 - i % 8).toNat = 7 - i.toNat % 8 by omega]
  have p2 : (s.getD (i / 8).toNat 0 / 2 ^ (7 - i % 8).toNat % 2 = 1) ↔ nbit s i.toNat = true := by
    rw [nbit, decide_eq_true_eq, show (i / 8).toNat = i.toNat / 8 by omega, show (7 - i % 8).toNat = 7 - i.toNat % 8 by omega]
  simp only [p1, p2, Bool.decide_eq_true]
  have hok : okM (s.drop n) s i.toNat = (if nbit (s.drop n) i.toNat then !en else !nbit s i.toNat) := by
    rw [okM, he]
    have : decide (0 < i) = decide (0 < i.toNat) := decide_eq_decide.2 (by omega)
    rw [this]
  have hst : (List.range (i + 1).toNat).all (okM (s.drop n) s) = okM (s.drop n) s i.toNat := by rw [show (i + 1).toNat = i.toNat + 1 by omega, range_step, ha, Bool.true_and]
  have hpos : decide (0 < i + 1) = true := decide_eq_true (by omega)
  have hpr : (i + 1).toNat - 1 = i.toNat := by omega
  rw [hst, hpos, hpr]
  refine ⟨fun hlt => ?_, fun hge => by rw [show 8 * n = i.toNat by omega, ha]⟩
  have hbad : okM (s.drop n) s i.toNat = false → (List.range (8 * n)).all (okM (s.drop n) s) = false := fun h => range_bad (by omega) h
  have q1 : 0 ≤ i / 8 ∧ i / 8 < (s.length : Int) := by omega
  have q2 : 0 ≤ 7 - i % 8 := by omega
  have q3 : 0 ≤ (n : Int) + i / 8 ∧ (n : Int) + i / 8 < (s.length : Int) := by omega
  have q4 : (8 * (n : Int) - (i + 1)).toNat < (8 * (n : Int) - i).toNat := by omega
  have q5 : 0 ≤ i + 1 ∧ i + 1 ≤ 8 * (n : Int) := by omega
  rw [hok] at hbad ⊢
  clear hok hst hpos hpr p1 p2 b1 b2 e1 e2 e3 e4 e5 e6 ha he
  generalize nbit (s.drop n) i.toNat = M at *
  generalize nbit s i.toNat = B at *
  generalize (List.range (8 * n)).all (okM (s.drop n) s) = A at *
  cases M <;> cases B <;> cases en <;> simp [q1, q2, q3, q4, q5] at hbad ⊢ <;> first | exact hbad | exact hbad.symm | exact ⟨by omega, hbad⟩ | omega
theorem h34 : c_within_mask.ok Tryz.prog GL 34 := conO_ok (H := {}) (mkEnvO_ok (gl := GL) (l := []) (q := []) (d := []) _ [1000000] tyOk (by kernel_rfl) trivial trivial trivial) (by kernel_rfl) (by kernel_rfl) (Eq.mp e34 k34)
def t62 : Prop :=
  ∀ (x : q37), (q380 x) -> List.length x.1.2 <= q153 /\ List.length x.2.1 <= q153 -> List.length [SV.dat q183 x.1.1, SV.dat Kd.str x.1.2] <= q89 /\ (List.length x.2.1 < q54 /\ List.length (bs
  { data := #[(64 : UInt8)] }) = q59) /\ (∀ (y : q3), (q60 y) -> y.1 = (q378 x).1 /\ y.2.1 = (q378 x).2.1 /\ y.2.2.1 = (q378 x).2.2 -> (List.length x.1.2 < q54 /\ List.length (bs { data :=
  #[(64 : UInt8)] }) = q59) /\ (∀ (y_1 : q3), (q60 y_1) -> y_1.1 = (q379 x).1 /\ y_1.2.1 = (q379 x).2.1 /\ y_1.2.2.1 = (q379 x).2.2 -> (y_1.2.2.1 = true -> (decide (y_1.1 = y.1) = true ->
  True) /\ (decide (y_1.1 = y.1) = true -> True) /\ (decide (y_1.1 = y.1) = true -> (decide (y_1.1 = y.1) == true) = true /\ (decide (y_1.1 = y.1) == true) = true /\ (q377 y_1 y) /\ (∀ (y_2 :
  q4), (q67 y_2) -> y_2.1 = matchD y_1.2.1 y.2.1 -> y_2.1 = mailT x.1.2 x.2.1) /\ True) /\ (decide (y_1.1 = y.1) = !true -> false = mailT x.1.2 x.2.1)) /\ (y_1.2.2.1 = false -> True /\ (∀
  (y_2 : q5), (wsZ y_2.1 /\ wbZ y_2.2.1 /\ True) -> (y_2.1 = if hasP q322 x.1.2 = true then List.drop (List.length q322) x.1.2 else x.1.2) /\ y_2.2.1 = hasP q322 x.1.2 -> (y_2.2.1 = true ->
  (List.length y.2.1 <= q103 /\ List.length y_2.1 <= q103) /\ (∀ (y_3 : q4), (q67 y_3) -> y_3.1 = belowD y.2.1 y_2.1 -> (y_3.1 = true -> True) /\ (y_3.1 = true -> True) /\ (y_3.1 = true ->
  (y_3.1 == true) = true /\ (y_3.1 == true) = true /\ (List.length y_2.1 <= q103 /\ List.length y.2.1 <= q103) /\ (∀ (y_4 : q4), (q67 y_4) -> y_4.1 = matchD y_2.1 y.2.1 -> (!y_4.1) = mailT
  x.1.2 x.2.1) /\ True) /\ (y_3.1 = !true -> false = mailT x.1.2 x.2.1)) /\ True) /\ (y_2.2.1 = false -> (List.length x.1.2 <= q103 /\ List.length y.2.1 <= q103) /\ (∀ (y_3 : q4), (q67 y_3)
  -> y_3.1 = matchD x.1.2 y.2.1 -> y_3.1 = mailT x.1.2 x.2.1) /\ True)) /\ True)) /\ True) /\ True
theorem e62 : t62 = Con.vc c_within_tree_email GL (mkEnvO ty [(46, conSem c_strings_Cut), (19, conSem c_host_Match), (42, conSem c_strings_CutPrefix), (8, conSem c_within_Below)] [] [] [0, 1, 2, 4, 5, 6, 8, 9, 10, 11, 12, 26, 41] [1000000]) {} Tryz.f62.ntmps Tryz.f62.results.toList (bodyOf Tryz.f62) := by kernel_rfl
theorem k62 : t62 := by
  unfold t62
  delta q37 q380 q153 q183 q89 q54 q59 q3 q60 q378 q379 q377 q4 q67 q5 wsZ wbZ q322 q103 q489 q536 q566 q565 q557
  rintro ⟨⟨k, b⟩, s, _⟩ hx hp
  obtain ⟨hb, hs⟩ := hp
  simp only at hb hs
  clear hx
  try dsimp +instances only [dft_int, dft_sl, dft_str]
  simp only [true_and, and_true, eq_self_iff_true, implies_true, reduceCtorEq, false_implies, true_implies, decide_eq_true_eq, decide_eq_false_iff_not, beq_self_eq_true, Bool.not_eq_true', ne_eq, Decidable.not_not, List.nil_append, List.length_singleton, List.length_cons, List.length_nil, Nat.zero_add, Nat.add_zero, Nat.mul_one, and_self, beq_iff_eq, Bool.not_true, Bool.not_false, Bool.not_eq_false', Bool.cond_false_right, Bool.and_eq_true, imp_self, Bool.not_eq_true, Bool.cond_true_left, Bool.or_eq_true]
  have b64 : (bs { data := #[64] }).getD 0 0 = 64 := rfl
  have b46 : bs { data := #[46] } = [46] := rfl
  rw [b64, b46]
  have la := cutD_len s 64
  have lb := cutD_len b 64
  refine ⟨by decide, ⟨by omega, rfl⟩, ?_⟩
  rintro ⟨lo, at', f, _⟩ _ ⟨h1, h2, h3⟩
  refine ⟨⟨by omega, rfl⟩, ?_⟩
  rintro ⟨ow, ho, fu, _⟩ _ ⟨g1, g2, g3⟩
  simp only at h1 h2 h3 g1 g2 g3 ⊢
  refine ⟨fun hf => ⟨fun heq => ⟨heq, heq, ⟨by rw [g2]; omega, by rw [h2]; omega⟩, ?_⟩, fun hne => ?_⟩, fun hf => ?_⟩
  . rintro ⟨r, _⟩ _ er
    simp only at er ⊢
    rw [er, mailT, if_pos (by rw [← g3]; exact hf), ← g1, ← h1, ← g2, ← h2, decide_eq_true heq]; rfl
  . rw [mailT, if_pos (by rw [← g3]; exact hf), ← g1, ← h1, decide_eq_false hne]; rfl
  . rintro ⟨re, ok, _⟩ _ ⟨k1, k2⟩
    simp only at k1 k2 ⊢
    have hm : mailT b s = if hasP [46] b then belowD (cutD 64 s).2.1 (b.drop 1) && !belowD (b.drop 1) (cutD 64 s).2.1 else matchD b (cutD 64 s).2.1 := by rw [mailT, if_neg (by rw [← g3, hf]; decide)]
    refine ⟨fun h => ?_, fun h => ?_⟩
    . have hre : re = b.drop 1 := by rw [k1, if_pos (by rw [← k2]; exact h)]; rfl
      refine ⟨⟨by rw [h2]; omega, by rw [hre, List.length_drop]; omega⟩, ?_⟩
      rintro ⟨v, _⟩ _ ev
      simp only at ev ⊢
      rw [hm, if_pos (by rw [← k2]; exact h), ← h2, ← hre]
      refine ⟨fun hv => ⟨hv, hv, ⟨by rw [hre, List.length_drop]; omega, by rw [h2]; omega⟩, ?_⟩, fun hv => by rw [← ev, hv]; rfl⟩
      rintro ⟨u, _⟩ _ eu
      simp only at eu ⊢
      rw [eu, below_strict (by rw [← ev]; exact hv), ← ev, hv, Bool.true_and]
    . refine ⟨⟨by omega, by rw [h2]; omega⟩, ?_⟩
      rintro ⟨u, _⟩ _ eu
      simp only at eu ⊢
      rw [hm, if_neg (by rw [← k2, h]; decide), eu, h2]
theorem h62 : c_within_tree_email.ok Tryz.prog GL 62 := conO_ok (H := {}) (mkEnvO_ok (gl := GL) (l := [(46, conSem c_strings_Cut), (19, conSem c_host_Match), (42, conSem c_strings_CutPrefix), (8, conSem c_within_Below)]) (q := []) (d := []) _ [1000000] tyOk (by kernel_rfl) ⟨h46.call, h19.call, h42.call, h8.call, trivial⟩ trivial trivial) (by kernel_rfl) (by kernel_rfl) (Eq.mp e62 k62)
def t63 : Prop :=
  ∀ (x : q37), (q380 x) -> List.length x.1.2 <= q153 /\ List.length x.2.1 <= q153 -> List.length [SV.dat q183 x.1.1, SV.dat Kd.str x.1.2] <= q89 /\ (List.length x.2.1 <= q103 /\ List.length
  x.1.2 <= q103) /\ (∀ (y : q4), (q67 y) -> y.1 = belowD x.2.1 x.1.2 -> y.1 = belowD x.2.1 x.1.2) /\ True
theorem e63 : t63 = Con.vc c_within_tree_dns GL (mkEnv ty [(8, conSem c_within_Below)] [] [] [0, 1, 2, 4]) {} Tryz.f63.ntmps Tryz.f63.results.toList (bodyOf Tryz.f63) := by kernel_rfl
theorem k63 : t63 := by
  unfold t63
  delta q37 q380 q153 q183 q89 q103 q4 q67 q489 wsZ wbZ q566
  rintro ⟨⟨k, b⟩, s, _⟩ hx hp
  obtain ⟨hb, hs⟩ := hp
  simp only at hb hs
  try dsimp +instances only [dft_int, dft_sl, dft_str]
  simp only [true_and, and_true, eq_self_iff_true, implies_true, reduceCtorEq, false_implies, true_implies, decide_eq_true_eq, decide_eq_false_iff_not, beq_self_eq_true, Bool.not_eq_true', ne_eq, Decidable.not_not, List.nil_append, List.length_singleton, List.length_cons, List.length_nil, Nat.zero_add, Nat.add_zero, Nat.mul_one, and_self, beq_iff_eq, Bool.not_true, Bool.not_false, Bool.not_eq_false', Bool.cond_false_right, Bool.and_eq_true, imp_self, Bool.not_eq_true, Bool.cond_true_left, Bool.or_eq_true]
  exact ⟨by decide, by omega, by omega⟩
theorem h63 : c_within_tree_dns.ok Tryz.prog GL 63 := con_ok (H := {}) (mkEnv_ok (gl := GL) (l := [(8, conSem c_within_Below)]) (q := []) (d := []) _ tyOk (by kernel_rfl) ⟨h8.call, trivial⟩ trivial trivial) (by kernel_rfl) (by kernel_rfl) (Eq.mp e63 k63)
def t64 : Prop :=
  ∀ (x : q37), (q380 x) -> List.length x.1.2 <= q153 /\ List.length x.2.1 <= q153 /\ namedD x.1.2 = true /\ namedD x.2.1 = true -> List.length [SV.dat q183 x.1.1, SV.dat Kd.str x.1.2] <= q89
  /\ lenB x.2.1 <= q153 /\ (∀ (y : q34), (q357 y) -> decQ x.2.1 y.1 y.2.1 = true -> lenB x.1.2 <= q153 /\ (∀ (y_1 : q34), (q357 y_1) -> decQ x.1.2 y_1.1 y_1.2.1 = true -> (List.length y_1.1
  <= q103 /\ (∀ (a : q21), a ∈ y.1 -> List.length a.2 <= q153) /\ ∀ (a : q21), a ∈ y_1.1 -> List.length a.2 <= q153) /\ (∀ (y_2 : q4), (q67 y_2) -> y_2.1 = beginsD y.1 y_1.1 -> y_2.1 =
  beginsD (guessD x.2.1) (guessD x.1.2)) /\ True) /\ True) /\ True
theorem e64 : t64 = Con.vc c_within_tree_name GL (mkEnv ty [(96, conSem c_name_Decode), (97, conSem c_name_Begins)] [] [] [0, 1, 2, 4, 5, 7]) {} Tryz.f64.ntmps Tryz.f64.results.toList (bodyOf Tryz.f64) := by kernel_rfl
theorem k64 : t64 := by
  unfold t64
  delta q37 q380 q153 q183 q89 q34 q357 q103 q21 q4 q67 q489 wsZ q508 wiZ wbZ q566 q572
  rintro ⟨⟨k, b⟩, s, _⟩ hx hp
  obtain ⟨hb, hs, nb, ns⟩ := hp
  simp only at hb hs nb ns
  try dsimp +instances only [dft_int, dft_sl, dft_str]
  simp only [true_and, and_true, eq_self_iff_true, implies_true, reduceCtorEq, false_implies, true_implies, decide_eq_true_eq, decide_eq_false_iff_not, beq_self_eq_true, Bool.not_eq_true', ne_eq, Decidable.not_not, List.nil_append, List.length_singleton, List.length_cons, List.length_nil, Nat.zero_add, Nat.add_zero, Nat.mul_one, and_self, beq_iff_eq, Bool.not_true, Bool.not_false, Bool.not_eq_false', Bool.cond_false_right, Bool.and_eq_true, imp_self, Bool.not_eq_true, Bool.cond_true_left, Bool.or_eq_true]
  refine ⟨by decide, by rw [lenB]; omega, ?_⟩
  rintro ⟨x, e, _⟩ _ h1
  refine ⟨by rw [lenB]; omega, ?_⟩
  rintro ⟨y, f, _⟩ _ h2
  simp only at h1 h2 ⊢
  obtain ⟨rfl, _⟩ := (dec_named h1).2 ns
  obtain ⟨rfl, _⟩ := (dec_named h2).2 nb
  have l1 := guess_len s
  have l2 := guess_len b
  refine ⟨⟨by omega, fun a ha => by have := l1.2 a ha; omega, fun a ha => by have := l2.2 a ha; omega⟩, ?_⟩
  rintro ⟨z, _⟩ _ ez
  exact ez
theorem h64 : c_within_tree_name.ok Tryz.prog GL 64 := con_ok (H := {}) (mkEnv_ok (gl := GL) (l := [(96, conSem c_name_Decode), (97, conSem c_name_Begins)]) (q := []) (d := []) _ tyOk (by kernel_rfl) ⟨h96.call, h97.call, trivial⟩ trivial trivial) (by kernel_rfl) (by kernel_rfl) (Eq.mp e64 k64)
def t65 : Prop :=
  ∀ (x : q37), (q380 x) -> List.length x.1.2 <= q153 /\ List.length x.2.1 <= q153 /\ maskD x.1.2 = true -> List.length [SV.dat q183 x.1.1, SV.dat Kd.str x.1.2] <= q89 /\ q94 ≠ q56 /\ (decide
  (q382 x) = true -> false = ipT x.1.2 x.2.1) /\ (decide (q382 x) = false -> ∃ (I : q38), ∃ (μ : q39), (wrZ (q383 x) = wrZ (q383 x) /\ Value.bool false = Value.bool false /\ wrZ (q383 x) =
  wrZ (q383 x) /\ x.1 = x.1 /\ x.2.1 = x.2.1 /\ x.1.1 = x.1.1 /\ x.1.2 = x.1.2 /\ I (q56, false, ()) ((), ())) /\ ∀ (y : q10) (z : q26), (q102 y) -> True /\ True -> I y z -> (decide (y.1 <
  wrZ (q383 x)) = true -> (q56 <= y.1 /\ y.1 < (lnZ x.2.1)) /\ (q56 <= wrZ (wrZ (q383 x) + y.1) /\ wrZ (wrZ (q383 x) + y.1) < (lnZ x.1.2)) /\ (q56 <= y.1 /\ y.1 < (lnZ x.1.2)) /\ (decide
  (q381 x y) = true -> false = ipT x.1.2 x.2.1) /\ (decide (q381 x y) = false -> wrZ (q383 x) = wrZ (q383 x) /\ Value.bool false = Value.bool false /\ wrZ (q383 x) = wrZ (q383 x) /\ x.1 = x.1
  /\ x.2.1 = x.2.1 /\ x.1.1 = x.1.1 /\ x.1.2 = x.1.2 /\ I (wrZ (q104 y), y.2.1, ()) ((), ()) /\ μ (wrZ (q104 y), y.2.1, ()) ((), ()) < μ y z)) /\ (decide (y.1 < wrZ (q383 x)) = false -> true
  = ipT x.1.2 x.2.1))
theorem e65 : t65 = Con.vc c_within_tree_ip GL (mkEnvO ty [] [] [] [0, 1, 2, 4, 5, 6, 14, 15, 16, 17, 33] [1000000]) {} Tryz.f65.ntmps Tryz.f65.results.toList (bodyOf Tryz.f65) := by kernel_rfl
theorem k65 : t65 := by
  unfold t65
  delta q37 q380 q153 q183 q89 q94 q56 q382 q38 q39 wrZ q383 q10 q26 q102 lnZ q381 q104 q489 wsZ q500 wiZ wbZ q554 q507 q452 q491 q566
  rintro ⟨⟨k, b⟩, s, _⟩ hx hp
  obtain ⟨hb, hs, hm⟩ := hp
  simp only at hb hs hm
  have wb : Bys b := str_bys hx.1.2
  have ws : Bys s := str_bys hx.2.1
  clear hx
  try dsimp +instances only [dft_int, dft_sl, dft_str]
  simp only [true_and, and_true, eq_self_iff_true, implies_true, reduceCtorEq, false_implies, true_implies, decide_eq_true_eq, decide_eq_false_iff_not, beq_self_eq_true, Bool.not_eq_true', ne_eq, Decidable.not_not, List.nil_append, List.length_singleton, List.length_cons, List.length_nil, Nat.zero_add, Nat.add_zero, Nat.mul_one, and_self, beq_iff_eq, Bool.not_true, Bool.not_false, Bool.not_eq_false', Bool.cond_false_right, Bool.and_eq_true, imp_self, Bool.not_eq_true, Bool.cond_true_left, Bool.or_eq_true]
  rw [← ip_eq wb ws hm]
  obtain ⟨n, hn⟩ : ∃ n : Nat, b.length / 2 = n := ⟨_, rfl⟩
  have e1 : IntKind.i64.wrap ((b.length : Int).tdiv 2) = (n : Int) := by rw [Int.tdiv_eq_ediv_of_nonneg (by omega), wrapK _ (by omega) (by omega)]; omega
  have hI : ipB b s = (decide (s.length = n) && (List.range n).all fun j => decide ((s.getD j 0).toNat &&& (b.getD (n + j) 0).toNat = (b.getD j 0).toNat)) := by rw [ipB, hn]
  simp only [e1]
  rw [hI]
  refine ⟨by decide, by decide, fun h => by rw [decide_eq_false (by omega)]; rfl, fun h => ?_⟩
  rw [decide_eq_true (show s.length = n by omega), Bool.true_and]
  generalize hF : (fun j => decide ((s.getD j 0).toNat &&& (b.getD (n + j) 0).toNat = (b.getD j 0).toNat)) = F
  refine ⟨fun y _ => 0 ≤ y.1 ∧ y.1 ≤ n ∧ (List.range y.1.toNat).all F = true, fun y _ => ((n : Int) - y.1).toNat, ⟨Int.le_refl 0, by simp only; omega, rfl⟩, ?_⟩
  rintro ⟨i, q, _⟩ z _ ⟨i0, i1, ha⟩
  simp only at i0 i1 ha ⊢
  have e4 : IntKind.i64.wrap ((n : Int) + i) = n + i := wrapK _ (by omega) (by omega)
  have e6 : IntKind.i64.wrap (i + 1) = i + 1 := wrapK _ (by omega) (by omega)
  have hv : decide (IntKind.u8.wrap ↑(BitVec.ofInt 8 (s.getD i.toNat 0) &&& BitVec.ofInt 8 (b.getD ((n : Int) + i).toNat 0)).toNat = b.getD i.toNat 0) = F i.toNat := by
    rw [and8 (bys_gd ws _) (bys_gd wb _), ← hF]
    have := bys_gd wb i.toNat
    refine decide_eq_decide.2 ?_
    rw [show ((n : Int) + i).toNat = n + i.toNat by omega]
    omega
  simp only [e4, e6]
  refine ⟨fun hlt => ⟨⟨i0, by omega⟩, ⟨by omega, by omega⟩, ⟨i0, by omega⟩, fun hne => ?_, fun he => ?_⟩, fun hge => ?_⟩
  . rw [decide_eq_false hne] at hv
    exact (range_bad (by omega) hv.symm).symm
  . rw [decide_eq_true he] at hv
    refine ⟨⟨by omega, by omega, ?_⟩, by omega⟩
    rw [show (i + 1).toNat = i.toNat + 1 by omega, range_step, ha, ← hv]; rfl
  . rw [show n = i.toNat by omega, ha]
theorem h65 : c_within_tree_ip.ok Tryz.prog GL 65 := conO_ok (H := {}) (mkEnvO_ok (gl := GL) (l := []) (q := []) (d := []) _ [1000000] tyOk (by kernel_rfl) trivial trivial trivial) (by kernel_rfl) (by kernel_rfl) (Eq.mp e65 k65)
def t38 : Prop :=
  ∀ (x : q1), (q52 x) -> True -> (decide (q56 < q390) = true -> (q56 <= q56 /\ q56 < q390) /\ q93 <= q89 /\ (decide (q92 = x.1) = true -> (63 : Nat) = asksN x.1) /\ (decide (q92 = x.1) =
  false -> (decide (wrZ q389 < q390) = true -> (q56 <= wrZ q389 /\ wrZ q389 < q390) /\ q93 <= q89 /\ (decide (q94 = x.1) = true -> (64 : Nat) = asksN x.1) /\ (decide (q94 = x.1) = false ->
  (decide (wrZ q388 < q390) = true -> (q56 <= wrZ q388 /\ wrZ q388 < q390) /\ q93 <= q89 /\ (decide (q453 = x.1) = true -> (65 : Nat) = asksN x.1) /\ (decide (q453 = x.1) = false -> (decide
  q385 = true -> (q56 <= wrZ q387 /\ wrZ q387 < q390) /\ q93 <= q89 /\ (decide ((7 : Int) = x.1) = true -> (66 : Nat) = asksN x.1) /\ (decide ((7 : Int) = x.1) = false -> (decide q384 = true
  -> (q56 <= wrZ q386 /\ wrZ q386 < q390) /\ q93 <= q89 /\ (decide (q56 = x.1) = true -> q91 = asksN x.1) /\ (decide (q56 = x.1) = false -> False)) /\ (decide q384 = false -> q91 = asksN
  x.1))) /\ (decide q385 = false -> q91 = asksN x.1))) /\ (decide (wrZ q388 < q390) = false -> q91 = asksN x.1))) /\ (decide (wrZ q389 < q390) = false -> q91 = asksN x.1))) /\ (decide (q56 <
  q390) = false -> q91 = asksN x.1)
theorem e38 : t38 = Con.vc c_within_asks GL (mkEnv ty [] [] [] [0, 2, 3, 5, 11, 12, 13, 14, 20]) {rounds := [(3,5)]} Tryz.f38.ntmps Tryz.f38.results.toList (bodyOf Tryz.f38) := by kernel_rfl
theorem k38 : t38 := by
  unfold t38
  delta q1 q52 q56 q390 q93 q89 q92 wrZ q389 q94 q388 q453 q385 q387 q384 q386 q91 wiZ q452 q491 q549 q557
  rintro ⟨k, _⟩ hx hp
  try dsimp +instances only [dft_int, dft_sl, dft_str]
  simp only [true_and, and_true, eq_self_iff_true, implies_true, reduceCtorEq, false_implies, true_implies, decide_eq_true_eq, decide_eq_false_iff_not, beq_self_eq_true, Bool.not_eq_true', ne_eq, Decidable.not_not, List.nil_append, List.length_singleton, List.length_cons, List.length_nil, Nat.zero_add, Nat.add_zero, Nat.mul_one, and_self, beq_iff_eq, Bool.not_true, Bool.not_false, Bool.not_eq_false', Bool.cond_false_right, Bool.and_eq_true, imp_self, Bool.not_eq_true, Bool.cond_true_left, Bool.or_eq_true]
  have w1 : IntKind.i64.wrap (0 + 1) = 1 := by decide
  have w2 : IntKind.i64.wrap (1 + 1) = 2 := by decide
  have w3 : IntKind.i64.wrap (2 + 1) = 3 := by decide
  have w4 : IntKind.i64.wrap (3 + 1) = 4 := by decide
  simp only [w1, w2, w3, w4]
  rcases (show k = 1 ∨ k = 2 ∨ k = 4 ∨ k = 7 ∨ (k ≠ 1 ∧ k ≠ 2 ∧ k ≠ 4 ∧ k ≠ 7) by omega) with rfl | rfl | rfl | rfl | ⟨a, b, c, d⟩
  . simp [asksN]
  . simp [asksN]
  . simp [asksN]
  . simp [asksN]
  . simp [asksN, a, b, c, d, Ne.symm a, Ne.symm b, Ne.symm c, Ne.symm d]
theorem h38 : c_within_asks.ok Tryz.prog GL 38 := con_ok (H := {rounds := [(3,5)]}) (mkEnv_ok (gl := GL) (l := []) (q := []) (d := []) _ tyOk (by kernel_rfl) trivial trivial trivial) (by kernel_rfl) (by kernel_rfl) (Eq.mp e38 k38)
def t11 : Prop :=
  ∀ (x : q22), (q181 x) -> List.length x.1.2 <= q153 -> List.length [SV.dat q183 x.1.1, SV.dat Kd.str x.1.2] <= q89 /\ (decide (x.1.1 = q92) = true -> List.length x.1.2 <= q103 /\ (∀ (y :
  q4), (q67 y) -> y.1 = emailD x.1.2 -> (y.1 = false -> True) /\ (q295 y) /\ (y.1 = false -> (y.1 == false) = true /\ True /\ (∀ (y : q6), (q88 y) -> (y.1 = if hasP q322 x.1.2 = true then
  List.drop (List.length q322) x.1.2 else x.1.2) -> List.length y.1 <= q103 /\ (∀ (y_1 : q4), (q67 y_1) -> y_1.1 = dnsD y.1 -> y_1.1 = mayT x.1.1 x.1.2) /\ True) /\ True) /\ (y.1 = !false ->
  true = mayT x.1.1 x.1.2)) /\ True) /\ (decide (x.1.1 = q92) = false -> (q391 x) /\ (decide (x.1.1 = q94) = false -> (decide (x.1.1 = q453) = true -> List.length x.1.2 <= q153 /\ (∀ (y :
  q4), (q67 y) -> y.1 = mayG q453 x.1.2 -> y.1 = mayT x.1.1 x.1.2) /\ True) /\ (decide (x.1.1 = q453) = false -> (decide (x.1.1 = (7 : Int)) = true -> List.length x.1.2 <= q103 /\ (∀ (y :
  q4), (q67 y) -> y.1 = maskD x.1.2 -> y.1 = mayT x.1.1 x.1.2) /\ True) /\ (decide (x.1.1 = (7 : Int)) = false -> false = mayT x.1.1 x.1.2))))
theorem e11 : t11 = Con.vc c_within_May GL (mkEnvO ty [(32, conSem c_host_Email), (25, conSem c_host_DNS), (33, conSem c_strings_TrimPrefix), (18, conSem c_host_May), (34, conSem c_within_mask)] [] [] [0, 1, 2, 4, 5, 16, 21, 27] [1000000,3000001]) {} Tryz.f11.ntmps Tryz.f11.results.toList (bodyOf Tryz.f11) := by kernel_rfl
theorem k11 : t11 := by
  unfold t11
  delta q22 q181 q153 q183 q89 q92 q103 q4 q67 q295 q6 q88 q322 q391 q94 q453 q489 wbZ wsZ q500 q566
  rintro ⟨⟨k, b⟩, _⟩ hx hp
  have hp : b.length ≤ 100000000 := hp
  clear hx
  try dsimp +instances only [dft_int, dft_sl, dft_str]
  simp only [true_and, and_true, eq_self_iff_true, implies_true, reduceCtorEq, false_implies, true_implies, decide_eq_true_eq, decide_eq_false_iff_not, beq_self_eq_true, Bool.not_eq_true', ne_eq, Decidable.not_not, List.nil_append, List.length_singleton, List.length_cons, List.length_nil, Nat.zero_add, Nat.add_zero, Nat.mul_one, and_self, beq_iff_eq, Bool.not_true, Bool.not_false, Bool.not_eq_false', Bool.cond_false_right, Bool.and_eq_true, imp_self, Bool.not_eq_true, Bool.cond_true_left, Bool.or_eq_true]
  have b46 : bs { data := #[46] } = [46] := rfl
  rw [b46]
  refine ⟨by decide, fun h => ⟨by omega, ?_⟩, fun h1 => ⟨fun h => ⟨by omega, ?_⟩, fun h2 => ⟨fun h => ⟨by omega, ?_⟩, fun h4 => ⟨fun h => ⟨by omega, ?_⟩, fun h7 => ?_⟩⟩⟩⟩
  . rintro ⟨y, _⟩ _ ey
    simp only at ey ⊢
    subst h
    have hd : hasP [46] b = true → emailD b = false := mail_dot
    refine ⟨fun hy => ⟨hy, ?_⟩, fun hy => ?_⟩
    . rintro ⟨z, _⟩ _ ez
      simp only at ez ⊢
      refine ⟨by rw [ez]; split; (rw [List.length_drop]; omega); omega, ?_⟩
      rintro ⟨w, _⟩ _ ew
      simp only at ew ⊢
      rw [ew, ez, mayT, if_pos rfl]
      cases hq : hasP [46] b
      . simp [← ey, hy]
      . simp
    . have he : emailD b = true := by rw [← ey]; exact hy
      rw [mayT, if_pos rfl]
      cases hq : hasP [46] b
      . simp [he]
      . rw [hd hq] at he; cases he
  . rintro ⟨y, _⟩ _ ey
    simp only at ey ⊢
    subst h
    rw [ey]; rfl
  . rintro ⟨y, _⟩ _ ey
    simp only at ey ⊢
    subst h
    rw [ey]; rfl
  . rintro ⟨y, _⟩ _ ey
    simp only at ey ⊢
    subst h
    rw [ey]; rfl
  . rw [mayT, if_neg h1, if_neg h2, if_neg h4, if_neg h7]
theorem h11 : c_within_May.ok Tryz.prog GL 11 := conO_ok (H := {}) (mkEnvO_ok (gl := GL) (l := [(32, conSem c_host_Email), (25, conSem c_host_DNS), (33, conSem c_strings_TrimPrefix), (18, conSem c_host_May), (34, conSem c_within_mask)]) (q := []) (d := []) _ [1000000,3000001] tyOk (by kernel_rfl) ⟨h32.call, h25.call, h33.call, h18.call, h34.call, trivial⟩ trivial trivial) (by kernel_rfl) (by kernel_rfl) (Eq.mp e11 k11)
def t13 : Prop :=
  ∀ (x : q40), (q393 x) -> List.length x.1.2 <= q153 /\ List.length x.2.1.2 <= q153 -> List.length [SV.dat q183 x.1.1, SV.dat Kd.str x.1.2] <= q89 /\ List.length [SV.dat q183 x.2.1.1, SV.dat
  Kd.str x.2.1.2] <= q89 /\ (decide (x.1.1 ≠ x.2.1.1) = false -> True) /\ (decide (x.1.1 ≠ x.2.1.1) = false -> (decide (x.1.1 ≠ x.2.1.1) == false) = true /\ List.length x.1.2 <= q153 /\ (∀ (y
  : q4), (q67 y) -> y.1 = mayT x.1.1 x.1.2 -> ((!y.1) = false -> True) /\ ((!y.1) = false -> ((!y.1) == false) = true /\ List.length x.2.1.2 <= q153 /\ (∀ (y : q4), (q67 y) -> y.1 = mayG
  x.2.1.1 x.2.1.2 -> ((!y.1) = true -> false = allT x.1 x.2.1) /\ ((!y.1) = false -> ∃ (J : List Int × Unit -> Unit × Unit × Unit -> Prop), ((decide (x.2.1.1 = q94) = true -> True /\ (∀ (y :
  q6), (q88 y) -> (y.1 = if hasP q326 x.2.1.2 = true then List.drop (List.length q326) x.2.1.2 else x.2.1.2) -> Value.bool false = Value.bool false /\ Value.bool false = Value.bool false /\
  x.1 = x.1 /\ x.2.1 = x.2.1 /\ x.1.1 = x.1.1 /\ x.1.2 = x.1.2 /\ x.2.1.1 = x.2.1.1 /\ x.2.1.2 = x.2.1.2 /\ J (y.1, ()) ((), (), ())) /\ True) /\ (decide (x.2.1.1 = q94) = false -> Value.bool
  false = Value.bool false /\ Value.bool false = Value.bool false /\ x.1 = x.1 /\ x.2.1 = x.2.1 /\ x.1.1 = x.1.1 /\ x.1.2 = x.1.2 /\ x.2.1.1 = x.2.1.1 /\ x.2.1.2 = x.2.1.2 /\ J (x.2.1.2, ())
  ((), (), ()))) /\ ∀ (u : q6) (z : Unit × Unit × Unit), (q88 u) -> True /\ True /\ True -> J u z -> ((True /\ (∀ (y : Nat × Unit), (Kd.wf Kd.fn y.1 /\ True) -> y.1 = asksN x.1.1 -> ((q493 y
  x u) /\ True) /\ True) /\ True) /\ (q392 x u) /\ True) /\ ((q392 x u) /\ True) /\ True)) /\ True) /\ ((!y.1) = !false -> false = allT x.1 x.2.1)) /\ True) /\ (decide (x.1.1 ≠ x.2.1.1) =
  !false -> false = allT x.1 x.2.1)
theorem e13 : t13 = Con.vc c_within_All GL (mkEnvO ty [(11, conSem c_within_May), (18, conSem c_host_May), (33, conSem c_strings_TrimPrefix), (38, conSem c_within_asks), (62, conSem c_within_tree_email), (63, conSem c_within_tree_dns), (64, conSem c_within_tree_name), (65, conSem c_within_tree_ip)] [] [] [0, 1, 2, 3, 4, 5, 20, 25] [2000062,2000063,2000064,2000065,1000000]) {joins := [6]} Tryz.f13.ntmps Tryz.f13.results.toList (bodyOf Tryz.f13) := by kernel_rfl
theorem k13 : t13 := by
  unfold t13
  delta q40 q393 q153 q183 q89 q4 q67 q94 q6 q88 q326 q493 q392 q489 wbZ wsZ q573 q566
  rintro ⟨⟨k, b⟩, ⟨g, s⟩, _⟩ hx hp
  obtain ⟨hb, hs⟩ := hp
  simp only at hb hs
  clear hx
  try dsimp +instances only [dft_int, dft_sl, dft_str]
  simp only [true_and, and_true, eq_self_iff_true, implies_true, reduceCtorEq, false_implies, true_implies, decide_eq_true_eq, decide_eq_false_iff_not, beq_self_eq_true, Bool.not_eq_true', ne_eq, Decidable.not_not, List.nil_append, List.length_singleton, List.length_cons, List.length_nil, Nat.zero_add, Nat.add_zero, Nat.mul_one, and_self, beq_iff_eq, Bool.not_true, Bool.not_false, Bool.not_eq_false', Bool.cond_false_right, Bool.and_eq_true, imp_self, Bool.not_eq_true, Bool.cond_true_left, Bool.or_eq_true]
  have b42 : bs { data := #[42, 46] } = [42, 46] := rfl
  rw [b42]
  refine ⟨by decide, by decide, fun hk => ⟨hk, hb, ?_⟩, fun hk => by simp [allT, hk]⟩
  rintro ⟨m, _⟩ _ em
  simp only at em ⊢
  refine ⟨fun hm => ⟨hm, hs, ?_⟩, fun hm => by rw [allT, ← em, hm]; simp⟩
  rintro ⟨h, _⟩ _ eh
  simp only at eh ⊢
  refine ⟨fun hh => by rw [allT, ← eh, hh]; simp, fun hh => ?_⟩
  refine ⟨fun u _ => u.1 = (if g = 2 then bareT s else s), ⟨fun h2 => ?_, fun h2 => by rw [if_neg h2]⟩, ?_⟩
  . rintro ⟨y, _⟩ _ ey
    simp only at ey
    show y = _
    rw [if_pos h2, ey, bareT]; rfl
  rintro ⟨u, _⟩ z _ hu ⟨f, _⟩ _ ef
  simp only at hu ef ⊢
  have hmk : mayT k b = true := by rw [← em]; exact hm
  have hgk : mayG g s = true := by rw [← eh]; exact hh
  have hA : allT (k, b) (g, s) = liesT k b u := by
    unfold allT
    simp only
    rw [decide_eq_true hk, hmk, hgk, hu]; rfl
  rw [hA]
  have hul : u.length ≤ 100000000 := by
    rw [hu]
    split
    . rw [bareT]; split
      . rw [List.length_drop]; omega
      . exact hs
    . exact hs
  subst hk
  rcases may_kinds hgk with ⟨rfl, he⟩ | ⟨rfl, he⟩ | ⟨rfl, he⟩ | ⟨rfl, he⟩
  . obtain rfl : f = 62 + 1 := ef
    refine ⟨by simp, fun _ => ⟨⟨hb, hul⟩, ?_⟩, fun h => absurd h (by decide), fun h => absurd h (by decide), fun h => absurd h (by decide)⟩
    rintro ⟨y, _⟩ _ ey
    exact ey
  . obtain rfl : f = 63 + 1 := ef
    refine ⟨by simp, fun h => absurd h (by decide), fun _ => ⟨⟨hb, hul⟩, ?_⟩, fun h => absurd h (by decide), fun h => absurd h (by decide)⟩
    rintro ⟨y, _⟩ _ ey
    exact ey
  . obtain rfl : f = 64 + 1 := ef
    have hus : u = s := by rw [hu, if_neg (by decide)]
    refine ⟨by simp, fun h => absurd h (by decide), fun h => absurd h (by decide), fun _ => ⟨⟨hb, hul, hmk, by rw [hus]; exact he⟩, ?_⟩, fun h => absurd h (by decide)⟩
    rintro ⟨y, _⟩ _ ey
    exact ey
  . obtain rfl : f = 65 + 1 := ef
    refine ⟨by simp, fun h => absurd h (by decide), fun h => absurd h (by decide), fun h => absurd h (by decide), fun _ => ⟨⟨hb, hul, hmk⟩, ?_⟩⟩
    rintro ⟨y, _⟩ _ ey
    exact ey
theorem h13 : c_within_All.ok Tryz.prog GL 13 := conO_ok (H := {joins := [6]}) (mkEnvO_ok (gl := GL) (l := [(11, conSem c_within_May), (18, conSem c_host_May), (33, conSem c_strings_TrimPrefix), (38, conSem c_within_asks), (62, conSem c_within_tree_email), (63, conSem c_within_tree_dns), (64, conSem c_within_tree_name), (65, conSem c_within_tree_ip)]) (q := []) (d := []) _ [2000062,2000063,2000064,2000065,1000000] tyOk (by kernel_rfl) ⟨h11.call, h18.call, h33.call, h38.call, h62.call, h63.call, h64.call, h65.call, trivial⟩ trivial trivial) (by kernel_rfl) (by kernel_rfl) (Eq.mp e13 k13)
def t15 : Prop :=
  ∀ (x : q40), (q393 x) -> List.length x.1.2 <= q153 /\ List.length x.2.1.2 <= q153 -> List.length [SV.dat q183 x.1.1, SV.dat Kd.str x.1.2] <= q89 /\ List.length [SV.dat q183 x.2.1.1, SV.dat
  Kd.str x.2.1.2] <= q89 /\ (List.length x.1.2 <= q153 /\ List.length x.2.1.2 <= q153) /\ (∀ (y : q4), (q67 y) -> y.1 = allT (x.1.1, x.1.2) (x.2.1.1, x.2.1.2) -> (y.1 = true -> true = someT
  x.1 x.2.1) /\ (y.1 = false -> (decide (x.1.1 ≠ x.2.1.1) = false -> True) /\ (decide (x.1.1 ≠ x.2.1.1) = false -> (decide (x.1.1 ≠ x.2.1.1) == false) = true /\ List.length x.1.2 <= q153 /\
  (∀ (y : q4), (q67 y) -> y.1 = mayT x.1.1 x.1.2 -> ((!y.1) = false -> True) /\ ((!y.1) = false -> ((!y.1) == false) = true /\ List.length x.2.1.2 <= q153 /\ (∀ (y : q4), (q67 y) -> y.1 =
  mayG x.2.1.1 x.2.1.2 -> ((!y.1) = false -> True) /\ (q148 y) /\ (q148 y) /\ ((!y.1) = false -> ((!y.1) == false) = true) /\ ((bif !y.1 then true else decide (x.2.1.1 ≠ q94)) = true -> false
  = someT x.1 x.2.1) /\ ((bif !y.1 then true else decide (x.2.1.1 ≠ q94)) = false -> (List.length x.2.1.2 <= q103 /\ List.length x.1.2 <= q103) /\ (∀ (y : q4), (q67 y) -> y.1 = matchD x.2.1.2
  x.1.2 -> y.1 = someT x.1 x.2.1) /\ True)) /\ True) /\ ((!y.1) = !false -> false = someT x.1 x.2.1)) /\ True) /\ (decide (x.1.1 ≠ x.2.1.1) = !false -> false = someT x.1 x.2.1))) /\ True
theorem e15 : t15 = Con.vc c_within_Some GL (mkEnvO ty [(13, conSem c_within_All), (11, conSem c_within_May), (18, conSem c_host_May), (19, conSem c_host_Match)] [] [] [0, 1, 2, 3, 4, 7, 27] [1000000]) {} Tryz.f15.ntmps Tryz.f15.results.toList (bodyOf Tryz.f15) := by kernel_rfl
theorem k15 : t15 := by
  unfold t15
  delta q40 q393 q153 q183 q89 q4 q67 q148 q94 q103 q489 wbZ q566
  rintro ⟨⟨k, b⟩, ⟨g, s⟩, _⟩ hx hp
  obtain ⟨hb, hs⟩ := hp
  simp only at hb hs
  clear hx
  try dsimp +instances only [dft_int, dft_sl, dft_str]
  simp only [true_and, and_true, eq_self_iff_true, implies_true, reduceCtorEq, false_implies, true_implies, decide_eq_true_eq, decide_eq_false_iff_not, beq_self_eq_true, Bool.not_eq_true', ne_eq, Decidable.not_not, List.nil_append, List.length_singleton, List.length_cons, List.length_nil, Nat.zero_add, Nat.add_zero, Nat.mul_one, and_self, beq_iff_eq, Bool.not_true, Bool.not_false, Bool.not_eq_false', Bool.cond_false_right, Bool.and_eq_true, imp_self, Bool.not_eq_true, Bool.cond_true_left, Bool.or_eq_true]
  refine ⟨by decide, by decide, ⟨hb, hs⟩, ?_⟩
  rintro ⟨a, _⟩ _ ea
  simp only at ea ⊢
  refine ⟨fun h => (all_some (by rw [← ea]; exact h)).symm, fun h => ⟨fun hk => ⟨hk, hb, ?_⟩, fun hk => by rw [someT, ← ea, h]; simp [hk]⟩⟩
  rintro ⟨m, _⟩ _ em
  simp only at em ⊢
  refine ⟨fun hm => ⟨hm, hs, ?_⟩, fun hm => by rw [someT, ← ea, h, ← em, hm]; simp⟩
  rintro ⟨q, _⟩ _ eq
  simp only at eq ⊢
  refine ⟨fun hh => ?_, fun hh => ⟨⟨by omega, by omega⟩, ?_⟩⟩
  . rw [someT, ← ea, h]
    simp only
    rw [← em, ← eq]
    rcases hh with hh | hh
    . rw [hh]; simp
    . simp [hh]
  . rintro ⟨w, _⟩ _ ew
    simp only at ew ⊢
    have hq : q = true ∧ g = 2 := by cases q <;> simp at hh ⊢; exact hh
    rw [someT, ← ea, h]
    simp only
    rw [← em, hm, ← eq, hq.1, decide_eq_true hk, decide_eq_true hq.2, ew]
    rfl
theorem h15 : c_within_Some.ok Tryz.prog GL 15 := conO_ok (H := {}) (mkEnvO_ok (gl := GL) (l := [(13, conSem c_within_All), (11, conSem c_within_May), (18, conSem c_host_May), (19, conSem c_host_Match)]) (q := []) (d := []) _ [1000000] tyOk (by kernel_rfl) ⟨h13.call, h11.call, h18.call, h19.call, trivial⟩ trivial trivial) (by kernel_rfl) (by kernel_rfl) (Eq.mp e15 k15)
end Go.Proofs.YtgnlcpoeepfdoaaGreatDoor
end
section
namespace Go.Proofs.YtgnlcpoeepfdoaaGreatDoor
open Go Go.Vc Go.Pl Go.Proofs
def c_r14_Below : Con := { args := [.dat .str, .dat .str], res := [.dat .bool], pre := fun x => x.1.length ≤ 100000000 ∧ x.2.1.length ≤ 100000000, post := fun x y => y.1 = belowD x.1 x.2.1 }
def c_r14_bit : Con := { args := [.dat .str, .dat I64], res := [.dat I64], pre := fun x => 0 ≤ x.2.1 ∧ x.2.1 < 8 * (x.1.length : Int) ∧ x.1.length ≤ 1000000000, post := fun x y => y.1 = if nbit x.1 x.2.1.toNat then 1 else 0 }
def c_r14_cut : Con := { args := [.dat .str], res := [.dat .str, .dat .str, .dat .bool], pre := fun x => x.1.length ≤ 1000000000, post := fun x y => (y.1, y.2.1, y.2.2.1) = if (cutD 64 x.1).2.2 = true then cutD 64 x.1 else ([], x.1, false) }
end Go.Proofs.YtgnlcpoeepfdoaaGreatDoor
end
section
namespace Go.Proofs.YtgnlcpoeepfdoaaGreatDoor
open Go Go.Vc Go.Pl Go.Proofs
set_option linter.unusedVariables false
set_option linter.unusedSimpArgs false
theorem no_take {l : List Int} {d : Int} {n : Nat} (h : ∀ j, j < n → l.getD j 0 ≠ d) : d ∉ l.take n := by
  intro hm
  obtain ⟨j, hj, e⟩ := List.getElem_of_mem hm
  rw [List.length_take] at hj
  rw [List.getElem_take] at e
  refine h j (by omega) ?_
  rw [List.getD_eq_getElem?_getD, List.getElem?_eq_getElem (by omega), ← e]
  rfl
theorem bit_tmod {a : Int} (ha : 0 ≤ a ∧ a ≤ 255) {r : Nat} (hr : r ≤ 7) : (IntKind.i64.wrap (a.fdiv (2 ^ min r 8))).tmod 2 = a / 2 ^ r % 2 := by
  have key : ∀ a : Fin 256, ∀ r : Fin 8, (IntKind.i64.wrap ((a.val : Int).fdiv (2 ^ min r.val 8))).tmod 2 = (a.val : Int) / 2 ^ r.val % 2 := by decide +kernel
  have := key ⟨a.toNat, by omega⟩ ⟨r, by omega⟩
  simpa [Int.toNat_of_nonneg ha.1] using this
abbrev q394 (p0 : q14) (p1 : q10) (p2 : q14) := (bif decide ((lnZ p0.1) < p1.1) then true else decide (List.getD p0.1 (Int.toNat (wrZ ((lnZ p0.1) - p1.1))) (Kd.dft Kd.str) ≠ List.getD p2.1
  (Int.toNat (wrZ ((lnZ p2.1) - p1.1))) (Kd.dft Kd.str)))
abbrev q494 (p0 : q14) (p1 : q10) := (decide ((lnZ p0.1) < p1.1) == false)
abbrev q395 (p0 : q14) (p1 : q10) := (decide ((lnZ p0.1) < p1.1) = false -> (q494 p0 p1) = true /\ (q494 p0 p1) = true /\ True)
abbrev q396 (p0 : q14) (p1 : q10) := (decide ((lnZ p0.1) < p1.1) = false -> (q494 p0 p1) = true /\ True)
abbrev q397 (p0 : q14) (p1 : q10) := (decide ((lnZ p0.1) < p1.1) = false -> True)
def t9 : Prop :=
  ∀ (x : q2), (q53 x) -> List.length x.1 <= q153 /\ List.length x.2.1 <= q153 -> List.length x.1 <= q103 /\ (∀ (y : q4), (q67 y) -> y.1 = dnsD x.1 -> ((!y.1) = false -> True) /\ ((!y.1) =
  false -> ((!y.1) == false) = true /\ List.length x.2.1 <= q103 /\ (∀ (y : q4), (q67 y) -> y.1 = dnsD x.2.1 -> ((!y.1) = true -> false = belowD x.1 x.2.1) /\ ((!y.1) = false -> List.length
  x.1 <= q103 /\ (∀ (y : q6), (q88 y) -> y.1 = lowD x.1 -> List.length y.1 <= q103 /\ (∀ (y_1 : q14), (q149 y_1) -> y_1.1 = labelsD y.1 -> List.length x.2.1 <= q103 /\ (∀ (y : q6), (q88 y) ->
  y.1 = lowD x.2.1 -> List.length y.1 <= q103 /\ (∀ (y_2 : q14), (q149 y_2) -> y_2.1 = labelsD y.1 -> ∃ (I : q8), ∃ (μ : q9), (Value.bool false = Value.bool false /\ x.1 = x.1 /\ x.2.1 =
  x.2.1 /\ y_1.1 = y_1.1 /\ y_2.1 = y_2.1 /\ I (q92, false, ()) ()) /\ ∀ (y : q10) (z : Unit), (q102 y) -> True -> I y z -> (decide (y.1 <= (lnZ y_2.1)) = true -> (q397 y_1 y) /\ (q397 y_1 y)
  /\ (q396 y_1 y) /\ (q397 y_1 y) /\ (q395 y_1 y) /\ (decide ((lnZ y_1.1) < y.1) = false -> (q494 y_1 y) = true /\ (q494 y_1 y) = true /\ (q56 <= wrZ ((lnZ y_1.1) - y.1) /\ wrZ ((lnZ y_1.1) -
  y.1) < (lnZ y_1.1)) /\ True) /\ (q396 y_1 y) /\ (q397 y_1 y) /\ (q397 y_1 y) /\ (q396 y_1 y) /\ (q397 y_1 y) /\ (q395 y_1 y) /\ (decide ((lnZ y_1.1) < y.1) = false -> (q494 y_1 y) = true /\
  (q494 y_1 y) = true /\ (q56 <= wrZ ((lnZ y_2.1) - y.1) /\ wrZ ((lnZ y_2.1) - y.1) < (lnZ y_2.1)) /\ True) /\ (q396 y_1 y) /\ (q395 y_1 y) /\ (decide ((lnZ y_1.1) < y.1) = false -> (q494 y_1
  y) = true) /\ ((q394 y_1 y y_2) = true -> false = belowD x.1 x.2.1) /\ ((q394 y_1 y y_2) = false -> Value.bool false = Value.bool false /\ x.1 = x.1 /\ x.2.1 = x.2.1 /\ y_1.1 = y_1.1 /\
  y_2.1 = y_2.1 /\ I (wrZ (q104 y), y.2.1, ()) () /\ μ (wrZ (q104 y), y.2.1, ()) () < μ y z)) /\ (decide (y.1 <= (lnZ y_2.1)) = false -> true = belowD x.1 x.2.1)) /\ True) /\ True) /\ True)
  /\ True)) /\ True) /\ ((!y.1) = !false -> false = belowD x.1 x.2.1)) /\ True
theorem e9 : t9 = Con.vc c_r14_Below GL (mkEnvO ty [(28, conSem c_r13_DNS), (29, conSem c_r13_Labels), (30, conSem c_r13_Small)] [] [] [0, 1, 4, 5, 6, 7, 15, 25, 48] [1000000]) {} Tryz.f9.ntmps Tryz.f9.results.toList (bodyOf Tryz.f9) := by kernel_rfl
theorem k9 : t9 := by
  unfold t9
  delta q2 q53 q153 q103 q4 q67 q6 q88 q14 q149 q8 q9 q92 q10 q102 lnZ q397 q396 q395 q494 q56 wrZ q394 q104 wsZ wbZ wiZ q491
  rintro ⟨a, b, _⟩ hx hp
  obtain ⟨ha, hb⟩ := hp
  simp only at ha hb
  clear hx
  try dsimp +instances only [dft_int, dft_sl, dft_str]
  simp only [true_and, and_true, eq_self_iff_true, implies_true, reduceCtorEq, false_implies, true_implies, decide_eq_true_eq, decide_eq_false_iff_not, beq_self_eq_true, Bool.not_eq_true', ne_eq, Decidable.not_not, List.nil_append, List.length_singleton, List.length_cons, List.length_nil, Nat.zero_add, Nat.add_zero, Nat.mul_one, and_self, beq_iff_eq, Bool.not_true, Bool.not_false, Bool.not_eq_false', Bool.cond_false_right, Bool.and_eq_true, imp_self, Bool.not_eq_true, Bool.cond_true_left, Bool.or_eq_true]
  refine ⟨by omega, ?_⟩
  rintro ⟨y, _⟩ _ ey
  simp only at ey ⊢
  refine ⟨fun h1 => ⟨h1, by omega, ?_⟩, fun h1 => by rw [belowD, ← ey, h1]; rfl⟩
  rintro ⟨z, _⟩ _ ez
  simp only at ez ⊢
  refine ⟨fun h2 => by rw [belowD, ← ez, h2]; simp, fun h2 => ⟨by omega, ?_⟩⟩
  rintro ⟨p, _⟩ _ ep
  simp only at ep ⊢
  refine ⟨by rw [ep, low_len]; omega, ?_⟩
  rintro ⟨x, _⟩ _ ex
  simp only at ex ⊢
  refine ⟨by omega, ?_⟩
  rintro ⟨q, _⟩ _ eq
  simp only at eq ⊢
  refine ⟨by rw [eq, low_len]; omega, ?_⟩
  rintro ⟨w, _⟩ _ ew
  simp only at ew ⊢
  have hB : belowD a b = decide (w <:+ x) := by
    rw [below_labels, ← ey, h1, ← ez, h2, ew, ex, eq, ep]; simp
  have lx : x.length ≤ a.length + 1 := by
    rw [ex, ep]
    have := (labels_len (lowD a)).1
    rw [low_len] at this; omega
  have lw : w.length ≤ b.length + 1 := by
    rw [ew, eq]
    have := (labels_len (lowD b)).1
    rw [low_len] at this; omega
  rw [hB]
  refine ⟨fun y _ => 1 ≤ y.1 ∧ y.1 ≤ (w.length : Int) + 1 ∧ ∀ j : Nat, 1 ≤ j → (j : Int) < y.1 → j ≤ x.length ∧ x.getD (x.length - j) [] = w.getD (w.length - j) [], fun y _ => ((w.length : Int) + 1 - y.1).toNat, ⟨Int.le_refl 1, by simp only; omega, fun j h1 h2 => by simp only at h2; omega⟩, ?_⟩
  rintro ⟨i, u, _⟩ v _ ⟨i1, i2, hi⟩
  simp only at i1 i2 hi ⊢
  rw [wrapK ((x.length : Int) - i) (by omega) (by omega), wrapK ((w.length : Int) - i) (by omega) (by omega), wrapK (i + 1) (by omega) (by omega)]
  refine ⟨fun hle => ⟨fun h => ⟨h, h, by omega, by omega⟩, fun h => ⟨h, h, by omega, by omega⟩, fun h => ?_, fun h => ?_⟩, fun hgt => ?_⟩
  . symm
    rw [decide_eq_false_iff_not]
    intro hs
    have := (suf_at w x).1 hs i.toNat (by omega) (by omega)
    rcases h with h | h
    . omega
    . refine h ?_
      rw [show ((x.length : Int) - i).toNat = x.length - i.toNat by omega, show ((w.length : Int) - i).toNat = w.length - i.toNat by omega]
      exact this.2
  . simp only [Bool.or_eq_false_iff, decide_eq_false_iff_not, Decidable.not_not] at h
    refine ⟨⟨by omega, by omega, fun j j1 j2 => ?_⟩, by omega⟩
    by_cases e : (j : Int) < i
    . exact hi j j1 e
    . have e : j = i.toNat := by omega
      subst e
      refine ⟨by omega, ?_⟩
      have h2 := h.2
      rw [show ((x.length : Int) - i).toNat = x.length - i.toNat by omega, show ((w.length : Int) - i).toNat = w.length - i.toNat by omega] at h2
      exact h2
  . symm
    rw [decide_eq_true_eq]
    exact (suf_at w x).2 fun j j1 j2 => hi j j1 (by omega)
theorem h9 : c_r14_Below.ok Tryz.prog GL 9 := conO_ok (H := {}) (mkEnvO_ok (gl := GL) (l := [(28, conSem c_r13_DNS), (29, conSem c_r13_Labels), (30, conSem c_r13_Small)]) (q := []) (d := []) _ [1000000] tyOk (by kernel_rfl) ⟨h28.call, h29.call, h30.call, trivial⟩ trivial trivial) (by kernel_rfl) (by kernel_rfl) (Eq.mp e9 k9)
def t37 : Prop :=
  ∀ (x : q0), (wsZ x.1 /\ wiZ x.2.1 /\ True) -> q56 <= x.2.1 /\ x.2.1 < q168 * (lnZ x.1) /\ List.length x.1 <= q103 -> q168 ≠ q56 /\ (q56 <= wrZ (Int.tdiv x.2.1 q168) /\ wrZ (Int.tdiv x.2.1
  q168) < (lnZ x.1)) /\ q168 ≠ q56 /\ q56 <= wrZ ((7 : Int) - Int.tmod x.2.1 q168) /\ q94 ≠ q56 /\ Int.tmod (wrZ (Int.fdiv (List.getD x.1 (Int.toNat (wrZ (Int.tdiv x.2.1 q168))) q56) (q94 ^
  min (Int.toNat (wrZ ((7 : Int) - Int.tmod x.2.1 q168))) q554))) q94 = if nbit x.1 (Int.toNat x.2.1) = true then q92 else q56
theorem e37 : t37 = Con.vc c_r14_bit GL (mkEnv ty [] [] [] [0, 1, 4]) {} Tryz.f37.ntmps Tryz.f37.results.toList (bodyOf Tryz.f37) := by kernel_rfl
theorem k37 : t37 := by
  unfold t37
  delta q0 wsZ wiZ q56 q168 lnZ q103 wrZ q94 q554 q92
  rintro ⟨s, i, _⟩ hx hp
  have hb : Bys s := str_bys hx.1
  obtain ⟨h0, h1, h2⟩ := hp
  simp only at h0 h1 h2
  clear hx
  try dsimp +instances only [dft_int, dft_sl, dft_str]
  simp only [true_and, and_true, eq_self_iff_true, implies_true, reduceCtorEq, false_implies, true_implies, decide_eq_true_eq, decide_eq_false_iff_not, beq_self_eq_true, Bool.not_eq_true', ne_eq, Decidable.not_not, List.nil_append, List.length_singleton, List.length_cons, List.length_nil, Nat.zero_add, Nat.add_zero, Nat.mul_one, and_self, beq_iff_eq, Bool.not_true, Bool.not_false, Bool.not_eq_false', Bool.cond_false_right, Bool.and_eq_true, imp_self, Bool.not_eq_true, Bool.cond_true_left, Bool.or_eq_true]
  have e3 : IntKind.i64.wrap (i.tdiv 8) = i / 8 := by rw [Int.tdiv_eq_ediv_of_nonneg h0, wrapK _ (by omega) (by omega)]
  have e5 : IntKind.i64.wrap (7 - i.tmod 8) = 7 - i % 8 := by rw [Int.tmod_eq_emod_of_nonneg h0, wrapK _ (by omega) (by omega)]
  simp only [e3, e5]
  rw [bit_tmod (bys_gd hb _) (by omega)]
  refine ⟨by decide, ⟨by omega, by omega⟩, by decide, by omega, by decide, ?_⟩
  have : nbit s i.toNat = decide (s.getD (i / 8).toNat 0 / 2 ^ (7 - i % 8).toNat % 2 = 1) := by rw [nbit, show (i / 8).toNat = i.toNat / 8 by omega, show (7 - i % 8).toNat = 7 - i.toNat % 8 by omega]
  rw [this]
  by_cases h : s.getD (i / 8).toNat 0 / 2 ^ (7 - i % 8).toNat % 2 = 1
  . rw [if_pos (decide_eq_true h)]; exact h
  . rw [if_neg (by simpa using h)]
    omega
theorem h37 : c_r14_bit.ok Tryz.prog GL 37 := con_ok (H := {}) (mkEnv_ok (gl := GL) (l := []) (q := []) (d := []) _ tyOk (by kernel_rfl) trivial trivial trivial) (by kernel_rfl) (by kernel_rfl) (Eq.mp e37 k37)
def t67 : Prop :=
  ∀ (x : q6), (q88 x) -> List.length x.1 <= q103 -> ∃ (I : Int × Bool × List Int × List Int × Unit -> Unit -> Prop), ∃ (μ : Int × Bool × List Int × List Int × Unit -> Unit -> Nat), (x.1 = x.1
  /\ I (q56, false, bs { data := #[] }, bs { data := #[] }, ()) ()) /\ ∀ (y : Int × Bool × List Int × List Int × Unit) (z : Unit), (wiZ y.1 /\ wbZ y.2.1 /\ wsZ y.2.2.1 /\ wsZ y.2.2.2.1 /\
  True) -> True -> I y z -> (decide (y.1 < (lnZ x.1)) = true -> (q56 <= y.1 /\ y.1 < (lnZ x.1)) /\ (decide (List.getD x.1 (Int.toNat y.1) q56 = q455) = true -> (q56 <= y.1 /\ y.1 <= (lnZ
  x.1)) /\ (q56 <= wrZ (y.1 + q92) /\ wrZ (y.1 + q92) <= (lnZ x.1)) /\ (List.take (Int.toNat y.1) x.1, List.drop (Int.toNat (wrZ (y.1 + q92))) x.1, true) = if (cutD q455 x.1).2.2 = true then
  cutD q455 x.1 else ([], x.1, false)) /\ (decide (List.getD x.1 (Int.toNat y.1) q56 = q455) = false -> x.1 = x.1 /\ I (wrZ (y.1 + q92), y.2.1, y.2.2.1, y.2.2.2.1, ()) () /\ μ (wrZ (y.1 +
  q92), y.2.1, y.2.2.1, y.2.2.2.1, ()) () < μ y z)) /\ (decide (y.1 < (lnZ x.1)) = false -> (bs { data := #[] }, x.1, false) = if (cutD q455 x.1).2.2 = true then cutD q455 x.1 else ([], x.1,
  false))
theorem e67 : t67 = Con.vc c_r14_cut GL (mkEnv ty [] [] [] [0, 2, 3, 4, 5, 9, 15]) {} Tryz.f67.ntmps Tryz.f67.results.toList (bodyOf Tryz.f67) := by kernel_rfl
theorem k67 : t67 := by
  unfold t67
  delta q6 q88 q103 q56 wiZ wbZ wsZ lnZ q455 wrZ q92
  rintro ⟨s, _⟩ hx hp
  have hp : s.length ≤ 1000000000 := hp
  clear hx
  try dsimp +instances only [dft_int, dft_sl, dft_str]
  simp only [true_and, and_true, eq_self_iff_true, implies_true, reduceCtorEq, false_implies, true_implies, decide_eq_true_eq, decide_eq_false_iff_not, beq_self_eq_true, Bool.not_eq_true', ne_eq, Decidable.not_not, List.nil_append, List.length_singleton, List.length_cons, List.length_nil, Nat.zero_add, Nat.add_zero, Nat.mul_one, and_self, beq_iff_eq, Bool.not_true, Bool.not_false, Bool.not_eq_false', Bool.cond_false_right, Bool.and_eq_true, imp_self, Bool.not_eq_true, Bool.cond_true_left, Bool.or_eq_true]
  refine ⟨fun y _ => 0 ≤ y.1 ∧ y.1 ≤ s.length ∧ ∀ j : Nat, j < y.1.toNat → s.getD j 0 ≠ 64, fun y _ => ((s.length : Int) - y.1).toNat, ⟨Int.le_refl 0, by simp only; omega, fun j h => by simp at h⟩, ?_⟩
  rintro ⟨i, a, p, q, _⟩ z _ ⟨i0, i1, hi⟩
  simp only at i0 i1 hi ⊢
  rw [wrapK (i + 1) (by omega) (by omega)]
  refine ⟨fun hlt => ⟨⟨i0, hlt⟩, fun h => ⟨⟨i0, by omega⟩, ⟨by omega, by omega⟩, ?_⟩, fun h => ⟨⟨by omega, by omega, fun j hj => ?_⟩, by omega⟩⟩, fun hge => ?_⟩
  . have hs : s = s.take i.toNat ++ 64 :: s.drop (i.toNat + 1) := by
      conv => lhs; rw [← List.take_append_drop i.toNat s]
      rw [List.drop_eq_getElem_cons (by omega)]
      congr 2
      rw [← h, List.getD_eq_getElem?_getD, List.getElem?_eq_getElem (by omega)]; rfl
    have hc := cutD_app (s.take i.toNat) (s.drop (i.toNat + 1)) 64 (no_take hi)
    rw [← hs] at hc
    rw [hc, if_pos rfl, show (i + 1).toNat = i.toNat + 1 by omega]
  . by_cases e : j < i.toNat
    . exact hi j e
    . rw [show j = i.toNat by omega]; exact h
  . have hn : 64 ∉ s := by
      have := no_take hi
      rwa [List.take_of_length_le (by omega)] at this
    rw [cutD_none hn, if_neg (by simp)]
    rfl
theorem h67 : c_r14_cut.ok Tryz.prog GL 67 := con_ok (H := {}) (mkEnv_ok (gl := GL) (l := []) (q := []) (d := []) _ tyOk (by kernel_rfl) trivial trivial trivial) (by kernel_rfl) (by kernel_rfl) (Eq.mp e67 k67)
end Go.Proofs.YtgnlcpoeepfdoaaGreatDoor
end
section
namespace Go.Proofs.YtgnlcpoeepfdoaaGreatDoor
open Go Go.Vc Go.Pl Go.Proofs
end Go.Proofs.YtgnlcpoeepfdoaaGreatDoor
end
section
namespace Go.Proofs.YtgnlcpoeepfdoaaGreatDoor
open Go Go.Vc Go.Pl Go.Proofs
set_option linter.unusedVariables false
set_option linter.unusedSimpArgs false
theorem there1 : belowD (bs { data := #[120, 46, 97, 46, 98] }) (bs { data := #[97, 46, 98] }) = true := by decide +kernel
end Go.Proofs.YtgnlcpoeepfdoaaGreatDoor
end
section
namespace Go.Proofs.YtgnlcpoeepfdoaaGreatDoor
open Go Go.Vc Go.Pl Go.Proofs
def c_law14_names : Con := { args := [], res := [.dat .bool], pre := fun _ => True, post := fun _ y => y.1 = true }
def c_law14_works : Con := { args := [], res := [.dat .bool], pre := fun _ => True, post := fun _ y => y.1 = true }
end Go.Proofs.YtgnlcpoeepfdoaaGreatDoor
end
section
namespace Go.Proofs.YtgnlcpoeepfdoaaGreatDoor
open Go Go.Vc Go.Pl Go.Proofs
set_option linter.unusedVariables false
set_option linter.unusedSimpArgs false
set_option maxRecDepth 20000
theorem works1 : allT (2, bs { data := #[97, 46, 98] }) (2, bs { data := #[120, 46, 97, 46, 98] }) = true := by decide +kernel
def t31 : Prop :=
  ∀ (x : Unit), True -> True -> true = true
theorem e31 : t31 = Con.vc c_law14_names GL (mkEnv ty [] [] [] [0]) {} Tryz.f31.ntmps Tryz.f31.results.toList (bodyOf Tryz.f31) := by kernel_rfl
theorem k31 : t31 := by
  unfold t31
  intro _ _ _
  first | rfl | decide
theorem h31 : c_law14_names.ok Tryz.prog GL 31 := con_ok (H := {}) (mkEnv_ok (gl := GL) (l := []) (q := []) (d := []) _ tyOk (by kernel_rfl) trivial trivial trivial) (by kernel_rfl) (by kernel_rfl) (Eq.mp e31 k31)
def t10 : Prop :=
  ∀ (x : Unit), True -> True -> ((5 : Nat) <= q103 /\ (3 : Nat) <= q103) /\ (∀ (y : q4), (q67 y) -> y.1 = belowD (bs { data := #[(120 : UInt8), q140, (97 : UInt8), q140, (98 : UInt8)] }) (bs
  { data := #[(97 : UInt8), q140, (98 : UInt8)] }) -> (y.1 = true -> ((3 : Nat) <= q153 /\ (5 : Nat) <= q153) /\ (∀ (y : q4), (q67 y) -> y.1 = allT (q94, bs { data := #[(97 : UInt8), q140,
  (98 : UInt8)] }) (q94, bs { data := #[(120 : UInt8), q140, (97 : UInt8), q140, (98 : UInt8)] }) -> (y.1 = true -> True /\ (∀ (y : q4), (q67 y) -> y.1 = true -> y.1 = true) /\ True) /\ (y.1
  = !true -> false = true)) /\ True) /\ (y.1 = !true -> false = true)) /\ True
theorem e10 : t10 = Con.vc c_law14_works GL (mkEnv ty [(8, conSem c_within_Below), (13, conSem c_within_All), (31, conSem c_law14_names)] [] [] [0]) {} Tryz.f10.ntmps Tryz.f10.results.toList (bodyOf Tryz.f10) := by kernel_rfl
theorem k10 : t10 := by
  unfold t10
  delta q103 q4 q67 q140 q153 q94 wbZ
  rintro _ hx hp
  try dsimp +instances only [dft_int, dft_sl, dft_str]
  simp only [true_and, and_true, eq_self_iff_true, implies_true, reduceCtorEq, false_implies, true_implies, decide_eq_true_eq, decide_eq_false_iff_not, beq_self_eq_true, Bool.not_eq_true', ne_eq, Decidable.not_not, List.nil_append, List.length_singleton, List.length_cons, List.length_nil, Nat.zero_add, Nat.add_zero, Nat.mul_one, and_self, beq_iff_eq, Bool.not_true, Bool.not_false, Bool.not_eq_false', Bool.cond_false_right, Bool.and_eq_true, imp_self, Bool.not_eq_true, Bool.cond_true_left, Bool.or_eq_true]
  refine ⟨⟨by decide, by decide⟩, ?_⟩
  rintro ⟨y, _⟩ _ ey
  simp only at ey ⊢
  rw [there1] at ey
  refine ⟨fun _ => ⟨⟨by decide, by decide⟩, ?_⟩, fun h => by rw [ey] at h; cases h⟩
  rintro ⟨z, _⟩ _ ez h
  simp only at ez h
  rw [ez, works1] at h
  cases h
theorem h10 : c_law14_works.ok Tryz.prog GL 10 := con_ok (H := {}) (mkEnv_ok (gl := GL) (l := [(8, conSem c_within_Below), (13, conSem c_within_All), (31, conSem c_law14_names)]) (q := []) (d := []) _ tyOk (by kernel_rfl) ⟨h8.call, h13.call, h31.call, trivial⟩ trivial trivial) (by kernel_rfl) (by kernel_rfl) (Eq.mp e10 k10)
end Go.Proofs.YtgnlcpoeepfdoaaGreatDoor
end
section
namespace Go.Proofs.YtgnlcpoeepfdoaaGreatDoor
open Go Go.Vc Go.Pl Go.Proofs
def c_r14_May : Con := { args := [.dat GT], res := [.dat .bool], pre := fun x => x.1.2.length ≤ 100000000, post := fun x y => y.1 = mayT x.1.1 x.1.2 }
def c_r14_lies : Con := { args := [.dat GT, .dat .str], res := [.dat .bool], pre := fun x => x.1.2.length ≤ 100000000 ∧ x.2.1.length ≤ 100000000 ∧ mayT x.1.1 x.1.2 = true ∧ (x.1.1 = 1 → emailD x.2.1 = true) ∧ (x.1.1 = 4 → namedD x.2.1 = true), post := fun x y => y.1 = liesT x.1.1 x.1.2 x.2.1 }
def c_r14_All : Con := { args := [.dat GT, .dat GT], res := [.dat .bool], pre := fun x => x.1.2.length ≤ 100000000 ∧ x.2.1.2.length ≤ 100000000, post := fun x y => y.1 = allT x.1 x.2.1 }
def c_r14_Some : Con := { args := [.dat GT, .dat GT], res := [.dat .bool], pre := fun x => x.1.2.length ≤ 100000000 ∧ x.2.1.2.length ≤ 100000000, post := fun x y => y.1 = someT x.1 x.2.1 }
end Go.Proofs.YtgnlcpoeepfdoaaGreatDoor
end
section
namespace Go.Proofs.YtgnlcpoeepfdoaaGreatDoor
open Go Go.Vc Go.Pl Go.Proofs
set_option linter.unusedVariables false
set_option linter.unusedSimpArgs false
set_option maxRecDepth 20000
theorem bit_one (c : Bool) : ((if c = true then (1 : Int) else 0) = 1) ↔ c = true := by cases c <;> simp
theorem dot_head {b : List Int} (h : b ≠ []) : (b.getD 0 0 = 46) ↔ hasP [46] b = true := by
  cases b with
  | nil => exact absurd rfl h
  | cons a l => simp [hasP]
theorem some_doc {p b : List Int} (hp : wildD p = true) (hb : dnsD b = true) : matchD p b = (decide ((labelsD b).length = (labelsD (p.drop 2)).length + 1) && belowD b (p.drop 2)) := by
  have hnp : dnsD p = false := by
    cases h : dnsD p
    . rfl
    . have := dns_star h
      obtain ⟨r, rfl, _⟩ := wild_form hp
      rw [show hasP [42, 46] (42 :: 46 :: r) = true from hasP_iff.2 ⟨r, rfl⟩] at this; cases this
  have hr := (bare_wild hp).2
  have e : ∀ x, (labelsD (lowD x)).length = (labelsD x).length := fun x => by rw [labels_low, List.length_map]
  rw [Bool.eq_iff_iff]
  constructor
  . intro h
    obtain ⟨_, _, h1, h2⟩ := wild_parts hnp h
    rw [h1, Bool.and_true, decide_eq_true_eq, ← e, h2, List.length_cons, e]
  . intro h
    simp only [Bool.and_eq_true, decide_eq_true_eq] at h
    obtain ⟨h1, h2⟩ := h
    rw [below_labels, hb, hr, Bool.true_and, Bool.true_and, decide_eq_true_eq] at h2
    obtain ⟨q, hq⟩ := h2
    have hl := congrArg List.length hq
    rw [List.length_append, e, e] at hl
    obtain ⟨w, rfl⟩ : ∃ w, q = [w] := List.length_eq_one_iff.1 (by omega)
    unfold matchD
    rw [hb, hnp, hp]
    simp only [Bool.false_eq_true, if_false, Bool.true_and]
    refine (match_doc hp).1 ?_
    obtain ⟨r, rfl, _⟩ := wild_form hp
    have e1 : labelsD (lowD (42 :: 46 :: r)) = [42] :: labelsD (lowD r) := rfl
    have e2 : (42 :: 46 :: r : List Int).drop 2 = r := rfl
    rw [e2] at hq
    rw [e1, ← hq]
    simp
abbrev q550 (p0 : q1) (p1 : q10) := (bif decide (p0.1 = (1 : Int)) then decide (q557 < p1.1) else false)
abbrev q398 (p0 : q1) (p1 : q10) := ((q550 p0 p1) = true -> ((q550 p0 p1) == true) = true /\ True)
abbrev q399 (p0 : q1) (p1 : q1) := ((decide (p0.1 = q452) == false && decide (p0.1 = q452) == false) = true -> decide (p1.1 = q452) = true -> True)
abbrev q400 (p0 : q1) (p1 : q1) := (decide (p0.1 = q452) == false && decide (p0.1 = q452) == false && decide (p1.1 = q452) == true)
abbrev q401 (p0 : q22) := (bif decide (q452 < (lnZ p0.1.2)) then decide (List.getD p0.1.2 q477 q452 = (46 : Int)) else false)
abbrev q402 (p0 : q22) := (q452 <= wrZ (Int.tdiv (lnZ p0.1.2) q500) /\ wrZ (Int.tdiv (lnZ p0.1.2) q500) <= (lnZ p0.1.2))
abbrev q403 (p0 : q22) := (decide (q452 < (lnZ p0.1.2)) = true -> (decide (q452 < (lnZ p0.1.2)) == true) = true /\ True)
abbrev q404 (p0 : q22) := (decide ((lnZ p0.1.2) ≠ (8 : Int)) = true -> (decide ((lnZ p0.1.2) ≠ (8 : Int)) == true) = true /\ True)
abbrev q405 (p0 : q1) (p1 : q10) := ((q550 p0 p1) = true -> True)
abbrev q406 (p0 : q1) (p1 : q10) := ((q550 p0 p1) == true)
abbrev q407 (p0 : q1) := (decide (p0.1 = q452) == false && decide (p0.1 = q452) == false)
abbrev q408 (p0 : q1) (p1 : q10) := (bif decide (p0.1 = q491) then decide (q452 < p1.1) else false)
abbrev q409 (p0 : q22) := (List.drop (Int.toNat (wrZ (Int.tdiv (lnZ p0.1.2) q500))) p0.1.2)
abbrev q410 (p0 : q1) := (decide (p0.1 = q491) == true)
abbrev q411 (p0 : q22) := (Int.tdiv (lnZ p0.1.2) q500)
abbrev q412 (p0 : q37) := (List.drop (Int.toNat (wrZ (Int.tdiv (lnZ p0.1.2) q500))) p0.1.2)
abbrev q413 (p0 : q40) := (List.length p0.1.2 <= q514 /\ List.length p0.2.1.2 <= q514 /\ mayT p0.1.1 p0.1.2 = true /\ (p0.1.1 = q491 -> emailD p0.2.1.2 = true) /\ (p0.1.1 = q453 -> namedD
  p0.2.1.2 = true))
abbrev q414 (p0 : q40) := (List.drop (2 : Nat) p0.2.1.2)
abbrev q495 (p0 : q14) (p1 : q14) := (decide ((lnZ p0.1) = wrZ ((lnZ p1.1) + (1 : Int))) == true)
abbrev q415 (p0 : q14) (p1 : q14) := (decide ((lnZ p0.1) = wrZ ((lnZ p1.1) + q491)) = true -> (q495 p0 p1) = true /\ True)
abbrev q416 (p0 : q40) := (bif decide (p0.1.1 ≠ q500) then true else decide (p0.2.1.1 ≠ q500))
abbrev q417 (p0 : q14) (p1 : q14) := ((lnZ p0.1) = wrZ ((lnZ p1.1) + q491))
def t12 : Prop :=
  ∀ (x : q22), (q181 x) -> List.length x.1.2 <= q153 -> List.length [SV.dat q183 x.1.1, SV.dat Kd.str x.1.2] <= q89 /\ (decide (x.1.1 = q92) = true -> (decide (q452 < (lnZ x.1.2)) = true ->
  True) /\ (q403 x) /\ (decide (q452 < (lnZ x.1.2)) = true -> (decide (q452 < (lnZ x.1.2)) == true) = true /\ (q56 <= q56 /\ q56 < (lnZ x.1.2)) /\ True) /\ (q403 x) /\ (decide (q452 < (lnZ
  x.1.2)) = true -> (decide (q452 < (lnZ x.1.2)) == true) = true) /\ ((q401 x) = true -> (q56 <= q92 /\ q92 <= (lnZ x.1.2)) /\ List.length (List.drop q59 x.1.2) <= q103 /\ (∀ (y : q4), (q67
  y) -> y.1 = dnsD (List.drop q59 x.1.2) -> y.1 = mayT x.1.1 x.1.2) /\ True) /\ ((q401 x) = false -> List.length x.1.2 <= q103 /\ (∀ (y : q4), (q67 y) -> y.1 = emailD x.1.2 -> (y.1 = false ->
  True) /\ (q295 y) /\ (y.1 = false -> (y.1 == false) = true /\ List.length x.1.2 <= q103 /\ (∀ (y : q4), (q67 y) -> y.1 = dnsD x.1.2 -> y.1 = mayT x.1.1 x.1.2) /\ True) /\ (y.1 = !false ->
  true = mayT x.1.1 x.1.2)) /\ True)) /\ (decide (x.1.1 = q92) = false -> (q391 x) /\ (decide (x.1.1 = q94) = false -> (decide (x.1.1 = q453) = true -> lenB x.1.2 <= q153 /\ (∀ (y : q34),
  (q357 y) -> decQ x.1.2 y.1 y.2.1 = true -> decide (y.2.1 = q56) = mayT x.1.1 x.1.2) /\ True) /\ (decide (x.1.1 = q453) = false -> (decide (x.1.1 = (7 : Int)) = true -> (decide ((lnZ x.1.2)
  ≠ (8 : Int)) = true -> True) /\ (q404 x) /\ (q404 x) /\ (q404 x) /\ (decide ((lnZ x.1.2) ≠ (8 : Int)) = true -> (decide ((lnZ x.1.2) ≠ (8 : Int)) == true) = true) /\ ((bif decide ((lnZ
  x.1.2) ≠ (8 : Int)) then decide ((lnZ x.1.2) ≠ (32 : Int)) else false) = true -> false = mayT x.1.1 x.1.2) /\ ((bif decide ((lnZ x.1.2) ≠ (8 : Int)) then decide ((lnZ x.1.2) ≠ (32 : Int))
  else false) = false -> q94 ≠ q56 /\ ∃ (I : q38), ∃ (μ : q39), (wrZ (q411 x) = wrZ (q411 x) /\ Value.bool false = Value.bool false /\ Value.bool true = Value.bool true /\ Value.bool false =
  Value.bool false /\ Value.bool false = Value.bool false /\ Value.bool false = Value.bool false /\ x.1.1 = x.1.1 /\ x.1 = x.1 /\ x.1.1 = x.1.1 /\ x.1.2 = x.1.2 /\ I (q56, false, ()) ((),
  ())) /\ ∀ (y : q10) (z : q26), (q102 y) -> True /\ True -> I y z -> (decide (y.1 < wrZ (q168 * wrZ (q411 x))) = true -> (q402 x) /\ (q56 <= y.1 /\ y.1 < q168 * (lnZ (q409 x)) /\ List.length
  (q409 x) <= q103) /\ (∀ (y_1 : q1), (q52 y_1) -> (y_1.1 = if nbit (q409 x) (q142 y) = true then q92 else q56) -> (decide (y_1.1 = q491) = true -> True) /\ (decide (y_1.1 = q491) = true ->
  (q410 y_1) = true /\ True) /\ (decide (y_1.1 = q491) = true -> (q410 y_1) = true) /\ (q405 y_1 y) /\ (q398 y_1 y) /\ (q405 y_1 y) /\ ((q408 y_1 y) = true -> (q406 y_1 y) = true /\ (q406 y_1
  y) = true /\ (q402 x) /\ True) /\ (q405 y_1 y) /\ (q398 y_1 y) /\ ((q408 y_1 y) = true -> (q406 y_1 y) = true /\ (q406 y_1 y) = true /\ (q56 <= wrZ (y.1 - q92) /\ wrZ (y.1 - q92) < q168 *
  (lnZ (q409 x)) /\ List.length (q409 x) <= q103) /\ (∀ (y_2 : q1), (q52 y_2) -> (y_2.1 = if nbit (q409 x) (Int.toNat (wrZ (y.1 - q92))) = true then q92 else q56) -> (decide (q116 y_2) =
  false -> True) /\ (decide (q116 y_2) = false -> (decide (q116 y_2) == false) = true /\ True) /\ (decide (q116 y_2) = false -> True) /\ (q399 y_2 y_1) /\ ((q407 y_2) = true -> decide (q116
  y_1) = true -> (q400 y_2 y_1) = true /\ True) /\ (q399 y_2 y_1) /\ ((q407 y_2) = true -> decide (q116 y_1) = true -> (q400 y_2 y_1) = true /\ (q400 y_2 y_1) = true /\ (q56 <= y.1 /\ y.1 <
  q168 * (lnZ x.1.2) /\ List.length x.1.2 <= q103) /\ (∀ (y_3 : q1), (q52 y_3) -> (y_3.1 = if nbit x.1.2 (q142 y) = true then q92 else q56) -> (decide (q116 y_2) = false -> True) /\ (decide
  (q116 y_2) = false -> (decide (q116 y_2) == false) = true) /\ ((bif decide (q116 y_2) then true else decide (y_3.1 = q491)) = true -> false = mayT x.1.1 x.1.2) /\ ((bif decide (q116 y_2)
  then true else decide (y_3.1 = q491)) = false -> wrZ (q411 x) = wrZ (q411 x) /\ Value.bool false = Value.bool false /\ Value.bool true = Value.bool true /\ Value.bool false = Value.bool
  false /\ Value.bool false = Value.bool false /\ Value.bool false = Value.bool false /\ x.1.1 = x.1.1 /\ x.1 = x.1 /\ x.1.1 = x.1.1 /\ x.1.2 = x.1.2 /\ I (wrZ (q104 y), y.2.1, ()) ((), ())
  /\ μ (wrZ (q104 y), y.2.1, ()) ((), ()) < μ y z)) /\ True) /\ ((q407 y_2) = true -> decide (q116 y_1) = !true -> (decide (q116 y_2) = false -> True) /\ (decide (q116 y_2) = false -> (decide
  (q116 y_2) == false) = true) /\ ((bif decide (q116 y_2) then true else false) = true -> false = mayT x.1.1 x.1.2) /\ ((bif decide (q116 y_2) then true else false) = false -> wrZ (q411 x) =
  wrZ (q411 x) /\ Value.bool false = Value.bool false /\ Value.bool true = Value.bool true /\ Value.bool false = Value.bool false /\ Value.bool false = Value.bool false /\ Value.bool false =
  Value.bool false /\ x.1.1 = x.1.1 /\ x.1 = x.1 /\ x.1.1 = x.1.1 /\ x.1.2 = x.1.2 /\ I (wrZ (q104 y), y.2.1, ()) ((), ()) /\ μ (wrZ (q104 y), y.2.1, ()) ((), ()) < μ y z)) /\ ((q407 y_2) =
  false -> (decide (q116 y_2) = false -> False) /\ (decide (q116 y_2) = !false -> false = mayT x.1.1 x.1.2))) /\ True) /\ ((q408 y_1 y) = !true -> (decide (q116 y_1) = true -> True) /\
  (decide (q116 y_1) = true -> (decide (q116 y_1) == true) = true /\ True) /\ (decide (q116 y_1) = true -> True) /\ (decide (q116 y_1) = true -> (decide (q116 y_1) == true) = true /\ (decide
  (q116 y_1) == true) = true /\ (q56 <= y.1 /\ y.1 < q168 * (lnZ x.1.2) /\ List.length x.1.2 <= q103) /\ (∀ (y_2 : q1), (q52 y_2) -> (y_2.1 = if nbit x.1.2 (q142 y) = true then q92 else q56)
  -> (decide (y_2.1 = q491) = true -> false = mayT x.1.1 x.1.2) /\ (decide (y_2.1 = q491) = false -> wrZ (q411 x) = wrZ (q411 x) /\ Value.bool false = Value.bool false /\ Value.bool true =
  Value.bool true /\ Value.bool false = Value.bool false /\ Value.bool false = Value.bool false /\ Value.bool false = Value.bool false /\ x.1.1 = x.1.1 /\ x.1 = x.1 /\ x.1.1 = x.1.1 /\ x.1.2
  = x.1.2 /\ I (wrZ (q104 y), y.2.1, ()) ((), ()) /\ μ (wrZ (q104 y), y.2.1, ()) ((), ()) < μ y z)) /\ True) /\ (decide (q116 y_1) = !true -> wrZ (q411 x) = wrZ (q411 x) /\ Value.bool false =
  Value.bool false /\ Value.bool true = Value.bool true /\ Value.bool false = Value.bool false /\ Value.bool false = Value.bool false /\ Value.bool false = Value.bool false /\ x.1.1 = x.1.1
  /\ x.1 = x.1 /\ x.1.1 = x.1.1 /\ x.1.2 = x.1.2 /\ I (wrZ (q104 y), y.2.1, ()) ((), ()) /\ μ (wrZ (q104 y), y.2.1, ()) ((), ()) < μ y z))) /\ True) /\ (decide (y.1 < wrZ (q168 * wrZ (q411
  x))) = false -> true = mayT x.1.1 x.1.2))) /\ (decide (x.1.1 = (7 : Int)) = false -> false = mayT x.1.1 x.1.2))))
theorem e12 : t12 = Con.vc c_r14_May GL (mkEnvO ty [(28, conSem c_r13_DNS), (35, conSem c_r13_Email), (36, conSem c_r12_Decode), (37, conSem c_r14_bit)] [] [] [0, 1, 2, 4, 5, 6, 7, 9, 10, 21, 34, 39, 50, 61, 69, 104] [1000000,3000001]) {} Tryz.f12.ntmps Tryz.f12.results.toList (bodyOf Tryz.f12) := by kernel_rfl
theorem k12 : t12 := by
  unfold t12
  delta q22 q181 q153 q183 q89 q92 q452 lnZ q403 q56 q401 q59 q103 q4 q67 q295 q391 q94 q453 q34 q357 q404 q38 q39 wrZ q411 q10 q26 q102 q168 q402 q409 q1 q52 q142 q491 q410 q405 q398 q408 q406 q116 q399 q407 q400 q104 q489 q477 wbZ q500 q508 wiZ q550 q566 q572 q557
  rintro ⟨⟨k, b⟩, _⟩ hx hp
  have hp : b.length ≤ 100000000 := hp
  have wb : Bys b := str_bys hx.1.2
  clear hx
  try dsimp +instances only [dft_int, dft_sl, dft_str]
  simp only [true_and, and_true, eq_self_iff_true, implies_true, reduceCtorEq, false_implies, true_implies, decide_eq_true_eq, decide_eq_false_iff_not, beq_self_eq_true, Bool.not_eq_true', ne_eq, Decidable.not_not, List.nil_append, List.length_singleton, List.length_cons, List.length_nil, Nat.zero_add, Nat.add_zero, Nat.mul_one, and_self, beq_iff_eq, Bool.not_true, Bool.not_false, Bool.not_eq_false', Bool.cond_false_right, Bool.and_eq_true, imp_self, Bool.not_eq_true, Bool.cond_true_left, Bool.or_eq_true]
  refine ⟨by decide, fun h => ⟨fun h0 => ⟨h0, by decide, h0⟩, fun h0 => ⟨⟨by decide, by omega⟩, ?_⟩, fun h0 => ⟨by omega, ?_⟩⟩, fun h1 => ⟨fun h => ⟨by omega, ?_⟩, fun h2 => ⟨fun h => ⟨by rw [lenB]; omega, ?_⟩, fun h4 => ⟨fun h => ⟨fun h0 => ?_, fun h0 => ⟨by decide, ?_⟩⟩, fun h7 => ?_⟩⟩⟩⟩
  . refine ⟨by rw [List.length_drop]; omega, ?_⟩
    rintro ⟨y, _⟩ _ ey
    simp only at ey ⊢
    subst h
    have hd : hasP [46] b = true := (dot_head (by rintro rfl; simp at h0)).1 h0.2
    rw [ey, mayT, if_pos rfl, if_pos hd]
  . subst h
    have hd : hasP [46] b = false := by
      cases e : hasP [46] b
      . rfl
      . obtain ⟨r, rfl⟩ := hasP_iff.1 e
        simp at h0
    rintro ⟨y, _⟩ _ ey
    simp only at ey ⊢
    have hm : mayT 1 b = (emailD b || dnsD b) := by rw [mayT, if_pos rfl, hd]; rfl
    rw [hm]
    refine ⟨fun hy => ⟨hy, by omega, ?_⟩, fun hy => by rw [← ey, hy]; rfl⟩
    rintro ⟨z, _⟩ _ ez
    simp only at ez ⊢
    rw [← ey, hy, ez]; rfl
  . rintro ⟨y, _⟩ _ ey
    simp only at ey ⊢
    subst h
    rw [ey]; rfl
  . rintro ⟨l, e, _⟩ _ h3
    simp only at h3 ⊢
    subst h
    exact (dec_named h3).1
  . subst h
    show false = maskD b
    rw [maskD, decide_eq_false (by omega)]; rfl
  . subst h
    have hL : b.length = 8 ∨ b.length = 32 := by simp at h0; omega
    obtain ⟨n, hn, hL2⟩ : ∃ n : Nat, b.length / 2 = n ∧ b.length = 2 * n := ⟨b.length / 2, rfl, by omega⟩
    have hnb : n = 4 ∨ n = 16 := by omega
    have e1 : IntKind.i64.wrap ((b.length : Int).tdiv 2) = (n : Int) := by rw [Int.tdiv_eq_ediv_of_nonneg (by omega), wrapK _ (by omega) (by omega)]; omega
    have e2 : IntKind.i64.wrap (8 * (n : Int)) = 8 * n := wrapK _ (by omega) (by omega)
    simp only [e1, e2, Int.toNat_natCast]
    have hM : mayT 7 b = (List.range (8 * n)).all (okM (b.drop n) b) := by
      show maskD b = _
      rw [maskD, decide_eq_true hL, hn, Bool.true_and]
    rw [hM]
    have hdl : (List.drop n b).length = n := by rw [List.length_drop]; omega
    refine ⟨fun y _ => 0 ≤ y.1 ∧ y.1 ≤ 8 * (n : Int) ∧ (List.range y.1.toNat).all (okM (b.drop n) b) = true, fun y _ => (8 * (n : Int) - y.1).toNat, ⟨Int.le_refl 0, by simp only; omega, rfl⟩, ?_⟩
    rintro ⟨i, q, _⟩ z _ ⟨i0, i1, ha⟩
    simp only at i0 i1 ha ⊢
    have e6 : IntKind.i64.wrap (i + 1) = i + 1 := wrapK _ (by omega) (by omega)
    have e7 : IntKind.i64.wrap (i - 1) = i - 1 := wrapK _ (by omega) (by omega)
    simp only [e6, e7, hdl]
    have hst : (List.range (i + 1).toNat).all (okM (b.drop n) b) = okM (b.drop n) b i.toNat := by rw [show (i + 1).toNat = i.toNat + 1 by omega, range_step, ha, Bool.true_and]
    refine ⟨fun hlt => ⟨⟨by omega, by omega⟩, ⟨i0, by omega, by omega⟩, ?_⟩, fun hge => by rw [show 8 * n = i.toNat by omega, ha]⟩
    have hbad : okM (b.drop n) b i.toNat = false → (List.range (8 * n)).all (okM (b.drop n) b) = false := fun h => range_bad (by omega) h
    have hgood : okM (b.drop n) b i.toNat = true → (0 ≤ i + 1 ∧ i + 1 ≤ 8 * (n : Int) ∧ (List.range (i + 1).toNat).all (okM (b.drop n) b) = true) ∧ (8 * (n : Int) - (i + 1)).toNat < (8 * (n : Int) - i).toNat := fun h => ⟨⟨by omega, by omega, by rw [hst]; exact h⟩, by omega⟩
    have hok : okM (b.drop n) b i.toNat = (if nbit (b.drop n) i.toNat then !(decide (0 < i) && !nbit (b.drop n) (i - 1).toNat) else !nbit b i.toNat) := by
      rw [okM, show (i - 1).toNat = i.toNat - 1 by omega]
      have : decide (0 < i) = decide (0 < i.toNat) := decide_eq_decide.2 (by omega)
      rw [this]
    rw [hok] at hbad hgood
    clear hok hst
    have q1 : 0 ≤ (n : Int) ∧ (n : Int) ≤ b.length := by omega
    have q2 : i < 8 * (b.length : Int) := by omega
    have q3 : b.length ≤ 1000000000 := by omega
    have q4 : n ≤ 1000000000 := by omega
    have q5 : 0 < i → 0 ≤ i - 1 ∧ i - 1 < 8 * (n : Int) := fun h => by omega
    generalize (List.range (8 * n)).all (okM (b.drop n) b) = A at *
    generalize nbit (b.drop n) i.toNat = M at *
    generalize nbit b i.toNat = C at *
    generalize nbit (b.drop n) (i - 1).toNat = P at *
    rintro ⟨y1, _⟩ _ ey1
    simp only at ey1 ⊢
    subst ey1
    refine ⟨fun h => ⟨h, h, q1⟩, fun h => ⟨h, h, ⟨(q5 h.2).1, (q5 h.2).2, q4⟩, ?_⟩, fun h => ⟨fun h3 => ⟨h3, h3, ⟨i0, q2, q3⟩, ?_⟩, fun h3 => ?_⟩⟩
    . have hM : M = true := (bit_one M).1 h.1
      subst hM
      rintro ⟨y2, _⟩ _ ey2
      simp only at ey2 ⊢
      subst ey2
      have hd : decide (0 < i) = true := decide_eq_true h.2
      rw [hd] at hbad hgood
      cases P
      . have hA : A = false := hbad rfl
        simp [hA]
      . have hg := hgood rfl
        simp [hg]
        try exact hg
    . have hM : M = false := by
        cases M
        . rfl
        . simp at h3
      subst hM
      rintro ⟨y2, _⟩ _ ey2
      simp only at ey2 ⊢
      subst ey2
      cases C
      . have hg := hgood rfl
        exact ⟨fun h => absurd h (by decide), fun _ => hg⟩
      . have hA : A = false := hbad rfl
        exact ⟨fun _ => hA.symm, fun h => absurd rfl h⟩
    . have hM : M = true := by
        cases M
        . simp at h3
        . rfl
      subst hM
      have hd : decide (0 < i) = false := by simpa using h
      rw [hd] at hgood
      exact hgood rfl
  . rw [mayT, if_neg h1, if_neg h2, if_neg h4, if_neg h7]
theorem h12 : c_r14_May.ok Tryz.prog GL 12 := conO_ok (H := {}) (mkEnvO_ok (gl := GL) (l := [(28, conSem c_r13_DNS), (35, conSem c_r13_Email), (36, conSem c_r12_Decode), (37, conSem c_r14_bit)]) (q := []) (d := []) _ [1000000,3000001] tyOk (by kernel_rfl) ⟨h28.call, h35.call, h36.call, h37.call, trivial⟩ trivial trivial) (by kernel_rfl) (by kernel_rfl) (Eq.mp e12 k12)
def t41 : Prop :=
  ∀ (x : q37), (q380 x) -> List.length x.1.2 <= q153 /\ List.length x.2.1 <= q153 /\ mayT x.1.1 x.1.2 = true /\ (x.1.1 = q92 -> emailD x.2.1 = true) /\ (x.1.1 = q453 -> namedD x.2.1 = true)
  -> List.length [SV.dat q183 x.1.1, SV.dat Kd.str x.1.2] <= q89 /\ (decide (x.1.1 = q92) = true -> List.length x.2.1 <= q103 /\ (∀ (y : q3), (q60 y) -> ((y.1, y.2.1, y.2.2.1) = if (cutD q455
  x.2.1).2.2 = true then cutD q455 x.2.1 else ([], x.2.1, false)) -> List.length x.1.2 <= q103 /\ (∀ (y_1 : q3), (q60 y_1) -> ((y_1.1, y_1.2.1, y_1.2.2.1) = if (cutD q455 x.1.2).2.2 = true
  then cutD q455 x.1.2 else ([], x.1.2, false)) -> (y_1.2.2.1 = true -> (decide (y_1.1 = y.1) = true -> True) /\ (decide (y_1.1 = y.1) = true -> True) /\ (decide (y_1.1 = y.1) = true ->
  (decide (y_1.1 = y.1) == true) = true /\ (decide (y_1.1 = y.1) == true) = true /\ (q377 y_1 y) /\ (∀ (y_2 : q4), (q67 y_2) -> y_2.1 = matchD y_1.2.1 y.2.1 -> y_2.1 = liesT x.1.1 x.1.2
  x.2.1) /\ True) /\ (decide (y_1.1 = y.1) = !true -> false = liesT x.1.1 x.1.2 x.2.1)) /\ (y_1.2.2.1 = false -> (q56 <= q56 /\ q56 < (lnZ y_1.2.1)) /\ (decide (List.getD y_1.2.1 q91 q56 =
  (46 : Int)) = true -> (q56 <= q92 /\ q92 <= (lnZ y_1.2.1)) /\ (List.length y.2.1 <= q153 /\ List.length (List.drop q59 y_1.2.1) <= q153) /\ (∀ (y_2 : q4), (q67 y_2) -> y_2.1 = belowD y.2.1
  (List.drop q59 y_1.2.1) -> (y_2.1 = true -> True) /\ (y_2.1 = true -> (y_2.1 == true) = true /\ (q56 <= q92 /\ q92 <= (lnZ y_1.2.1)) /\ True) /\ (y_2.1 = true -> True) /\ (y_2.1 = true ->
  (y_2.1 == true) = true /\ (y_2.1 == true) = true /\ (List.length (List.drop q59 y_1.2.1) <= q153 /\ List.length y.2.1 <= q153) /\ (∀ (y_3 : q4), (q67 y_3) -> y_3.1 = belowD (List.drop q59
  y_1.2.1) y.2.1 -> (!y_3.1) = liesT x.1.1 x.1.2 x.2.1) /\ True) /\ (y_2.1 = !true -> false = liesT x.1.1 x.1.2 x.2.1)) /\ True) /\ (decide (List.getD y_1.2.1 q91 q56 = (46 : Int)) = false ->
  (q377 y_1 y) /\ (∀ (y_2 : q4), (q67 y_2) -> y_2.1 = matchD y_1.2.1 y.2.1 -> y_2.1 = liesT x.1.1 x.1.2 x.2.1) /\ True))) /\ True) /\ True) /\ (decide (x.1.1 = q92) = false -> (decide (x.1.1
  = q94) = true -> (List.length x.2.1 <= q153 /\ List.length x.1.2 <= q153) /\ (∀ (y : q4), (q67 y) -> y.1 = belowD x.2.1 x.1.2 -> y.1 = liesT x.1.1 x.1.2 x.2.1) /\ True) /\ (decide (x.1.1 =
  q94) = false -> (decide (x.1.1 = q453) = true -> lenB x.2.1 <= q153 /\ (∀ (y : q34), (q357 y) -> decQ x.2.1 y.1 y.2.1 = true -> lenB x.1.2 <= q153 /\ (∀ (y_1 : q34), (q357 y_1) -> decQ
  x.1.2 y_1.1 y_1.2.1 = true -> (List.length y_1.1 <= q103 /\ (∀ (a : q21), a ∈ y.1 -> List.length a.2 <= q153) /\ ∀ (a : q21), a ∈ y_1.1 -> List.length a.2 <= q153) /\ (∀ (y_2 : q4), (q67
  y_2) -> y_2.1 = beginsD y.1 y_1.1 -> y_2.1 = liesT x.1.1 x.1.2 x.2.1) /\ True) /\ True) /\ True) /\ (decide (x.1.1 = q453) = false -> q94 ≠ q56 /\ (decide (q382 x) = true -> false = liesT
  x.1.1 x.1.2 x.2.1) /\ (decide (q382 x) = false -> ∃ (I : q38), ∃ (μ : q39), (Value.bool false = Value.bool false /\ wrZ (q383 x) = wrZ (q383 x) /\ Value.bool false = Value.bool false /\
  Value.bool false = Value.bool false /\ Value.bool false = Value.bool false /\ x.1.1 = x.1.1 /\ x.1 = x.1 /\ x.2.1 = x.2.1 /\ x.1.1 = x.1.1 /\ x.1.2 = x.1.2 /\ I (q56, false, ()) ((), ()))
  /\ ∀ (y : q10) (z : q26), (q102 y) -> True /\ True -> I y z -> (decide (y.1 < wrZ (q168 * wrZ (q383 x))) = true -> True /\ ((q56 <= wrZ (q383 x) /\ wrZ (q383 x) <= (lnZ x.1.2)) /\ ((q56 <=
  y.1 /\ y.1 < q168 * (lnZ (q412 x)) /\ List.length (q412 x) <= q103) /\ (∀ (y_1 : q1), (q52 y_1) -> (y_1.1 = if nbit (q412 x) (q142 y) = true then q92 else q56) -> (decide (y_1.1 = q491) =
  true -> True) /\ (decide (y_1.1 = q491) = true -> (q410 y_1) = true) /\ ((decide (y_1.1 = q491) = true -> (q410 y_1) = true /\ (q410 y_1) = true /\ (q56 <= y.1 /\ y.1 < q168 * (lnZ x.2.1)
  /\ List.length x.2.1 <= q103) /\ (∀ (y_2 : q1), (q52 y_2) -> (y_2.1 = if nbit x.2.1 (q142 y) = true then q92 else q56) -> ((q410 y_1) = true /\ (q410 y_1) = true /\ (q56 <= y.1 /\ y.1 <
  q168 * (lnZ x.1.2) /\ List.length x.1.2 <= q103) /\ (∀ (y_3 : q1), (q52 y_3) -> (y_3.1 = if nbit x.1.2 (q142 y) = true then q92 else q56) -> (((decide (y_2.1 ≠ y_3.1) = true -> false =
  liesT x.1.1 x.1.2 x.2.1) /\ (decide (y_2.1 ≠ y_3.1) = false -> Value.bool false = Value.bool false /\ wrZ (q383 x) = wrZ (q383 x) /\ Value.bool false = Value.bool false /\ Value.bool false
  = Value.bool false /\ Value.bool false = Value.bool false /\ x.1.1 = x.1.1 /\ x.1 = x.1 /\ x.2.1 = x.2.1 /\ x.1.1 = x.1.1 /\ x.1.2 = x.1.2 /\ I (wrZ (q104 y), y.2.1, ()) ((), ()) /\ μ (wrZ
  (q104 y), y.2.1, ()) ((), ()) < μ y z)) /\ True) /\ True) /\ True) /\ True) /\ True) /\ (decide (y_1.1 = q491) = !true -> (((Value.bool false = Value.bool false /\ wrZ (q383 x) = wrZ (q383
  x) /\ Value.bool false = Value.bool false /\ Value.bool false = Value.bool false /\ Value.bool false = Value.bool false /\ x.1.1 = x.1.1 /\ x.1 = x.1 /\ x.2.1 = x.2.1 /\ x.1.1 = x.1.1 /\
  x.1.2 = x.1.2 /\ I (wrZ (q104 y), y.2.1, ()) ((), ()) /\ μ (wrZ (q104 y), y.2.1, ()) ((), ()) < μ y z) /\ True) /\ True) /\ True)) /\ True) /\ True) /\ True) /\ True) /\ (decide (y.1 < wrZ
  (q168 * wrZ (q383 x))) = false -> true = liesT x.1.1 x.1.2 x.2.1)))))
theorem e41 : t41 = Con.vc c_r14_lies GL (mkEnvO ty [(67, conSem c_r14_cut), (68, conSem c_r13_Match), (9, conSem c_r14_Below), (36, conSem c_r12_Decode), (69, conSem c_r12_Begins), (37, conSem c_r14_bit)] [] [] [0, 1, 2, 4, 5, 6, 8, 9, 10, 11, 13, 15, 16, 18, 19, 34, 45, 60, 66, 91, 95, 114] [1000000,3000002]) {} Tryz.f41.ntmps Tryz.f41.results.toList (bodyOf Tryz.f41) := by kernel_rfl
theorem k41 : t41 := by
  unfold t41
  delta q37 q380 q153 q92 q453 q183 q89 q103 q3 q60 q455 q377 q4 q67 q56 lnZ q91 q59 q94 q34 q357 q21 q382 q38 q39 wrZ q383 q10 q26 q102 q168 q412 q1 q52 q142 q491 q410 q104 q489 wsZ wbZ q508 wiZ q500 q566 q572
  rintro ⟨⟨k, b⟩, s, _⟩ hx hp
  obtain ⟨hb, hs, hm, he, hn⟩ := hp
  simp only at hb hs hm he hn
  clear hx
  try dsimp +instances only [dft_int, dft_sl, dft_str]
  simp only [true_and, and_true, eq_self_iff_true, implies_true, reduceCtorEq, false_implies, true_implies, decide_eq_true_eq, decide_eq_false_iff_not, beq_self_eq_true, Bool.not_eq_true', ne_eq, Decidable.not_not, List.nil_append, List.length_singleton, List.length_cons, List.length_nil, Nat.zero_add, Nat.add_zero, Nat.mul_one, and_self, beq_iff_eq, Bool.not_true, Bool.not_false, Bool.not_eq_false', Bool.cond_false_right, Bool.and_eq_true, imp_self, Bool.not_eq_true, Bool.cond_true_left, Bool.or_eq_true]
  have la := cutD_len s 64
  have lb := cutD_len b 64
  refine ⟨by decide, fun h => ⟨by omega, ?_⟩, fun h1 => ⟨fun h => ⟨⟨hs, hb⟩, ?_⟩, fun h2 => ⟨fun h => ⟨by rw [lenB]; exact hs, ?_⟩, fun h4 => ⟨by decide, ?_⟩⟩⟩⟩
  . subst h
    have hes := he rfl
    have hf : (cutD 64 s).2.2 = true := mail_has hes
    have hbne : b ≠ [] := by rintro rfl; revert hm; decide
    rintro ⟨lo, at', f, _⟩ _ h1
    simp only at h1 ⊢
    rw [if_pos hf] at h1
    have h11 : lo = (cutD 64 s).1 := congrArg Prod.fst h1
    have h12 : at' = (cutD 64 s).2.1 := congrArg (fun x => x.2.1) h1
    refine ⟨by omega, ?_⟩
    rintro ⟨ow, ho, fu, _⟩ _ g1
    simp only at g1 ⊢
    show _ ∧ _
    have hL : liesT 1 b s = mailT b s := rfl
    rw [hL]
    cases hq : (cutD 64 b).2.2
    . rw [if_neg (by rw [hq]; decide)] at g1
      obtain ⟨rfl, g2⟩ := Prod.mk.inj g1
      obtain ⟨rfl, rfl⟩ := Prod.mk.inj g2
      have hmt : mailT ho s = if hasP [46] ho then belowD (cutD 64 s).2.1 (ho.drop 1) && !belowD (ho.drop 1) (cutD 64 s).2.1 else matchD ho (cutD 64 s).2.1 := by rw [mailT, if_neg (by rw [hq]; decide)]
      have hpos : 0 < (ho.length : Int) := by
        have := List.length_pos_iff.2 hbne
        omega
      refine ⟨fun h => absurd h (by decide), fun _ => ⟨⟨by decide, hpos⟩, fun h => ?_, fun h => ?_⟩⟩
      . have hd := (dot_head hbne).1 h
        refine ⟨⟨by decide, by omega⟩, ⟨by rw [h12]; omega, by rw [List.length_drop]; omega⟩, ?_⟩
        rintro ⟨v, _⟩ _ ev
        simp only at ev ⊢
        rw [hmt, if_pos hd, ← h12, ← ev]
        refine ⟨fun hv => ⟨hv, by decide, by omega⟩, fun hv => ⟨hv, hv, ⟨by rw [List.length_drop]; omega, by rw [h12]; omega⟩, ?_⟩, fun hv => by rw [hv]; rfl⟩
        rintro ⟨u, _⟩ _ eu
        simp only at eu ⊢
        rw [hv, eu, Bool.true_and]
      . have hd : ¬ hasP [46] ho = true := fun e => h ((dot_head hbne).2 e)
        refine ⟨⟨by omega, by rw [h12]; omega⟩, ?_⟩
        rintro ⟨u, _⟩ _ eu
        simp only at eu ⊢
        rw [hmt, if_neg hd, eu, h12]
    . rw [if_pos hq] at g1
      have g11 : ow = (cutD 64 b).1 := congrArg Prod.fst g1
      have g12 : ho = (cutD 64 b).2.1 := congrArg (fun x => x.2.1) g1
      have g13 : fu = true := by rw [← hq]; exact congrArg (fun x => x.2.2) g1
      refine ⟨fun _ => ⟨fun heq => ⟨heq, heq, ⟨by rw [g12]; omega, by rw [h12]; omega⟩, ?_⟩, fun hne => ?_⟩, fun h => by rw [g13] at h; cases h⟩
      . rintro ⟨r, _⟩ _ er
        simp only at er ⊢
        rw [er, mailT, if_pos hq, ← g11, ← h11, ← g12, ← h12, decide_eq_true heq]; rfl
      . rw [mailT, if_pos hq, ← g11, ← h11, decide_eq_false hne]; rfl
  . rintro ⟨y, _⟩ _ ey
    simp only at ey ⊢
    subst h
    rw [ey]; rfl
  . subst h
    rintro ⟨x, e, _⟩ _ h1
    refine ⟨by rw [lenB]; exact hb, ?_⟩
    rintro ⟨y, f, _⟩ _ h2
    simp only at h1 h2 ⊢
    obtain ⟨rfl, _⟩ := (dec_named h1).2 (hn rfl)
    obtain ⟨rfl, _⟩ := (dec_named h2).2 hm
    have l1 := guess_len s
    have l2 := guess_len b
    refine ⟨⟨by omega, fun a ha => by have := l1.2 a ha; omega, fun a ha => by have := l2.2 a ha; omega⟩, ?_⟩
    rintro ⟨z, _⟩ _ ez
    exact ez
  . have h7 : k = 7 := by
      by_cases e : k = 7
      . exact e
      . rw [mayT, if_neg h1, if_neg h2, if_neg h4, if_neg e] at hm; cases hm
    subst h7
    have hL : liesT 7 b s = ipT b s := rfl
    rw [hL]
    obtain ⟨n, hn2⟩ : ∃ n : Nat, b.length / 2 = n := ⟨_, rfl⟩
    have e1 : IntKind.i64.wrap ((b.length : Int).tdiv 2) = (n : Int) := by rw [Int.tdiv_eq_ediv_of_nonneg (by omega), wrapK _ (by omega) (by omega)]; omega
    have e2 : IntKind.i64.wrap (8 * (n : Int)) = 8 * n := wrapK _ (by omega) (by omega)
    have hI : ipT b s = (decide (s.length = n) && (List.range (8 * n)).all fun i => !nbit (b.drop n) i || decide (nbit s i = nbit b i)) := by rw [ipT, hn2]
    simp only [e1, e2, Int.toNat_natCast]
    rw [hI]
    refine ⟨fun h => by rw [decide_eq_false (by omega)]; rfl, fun h => ?_⟩
    rw [decide_eq_true (show s.length = n by omega), Bool.true_and]
    have hdl : n ≤ (List.drop n b).length := by rw [List.length_drop]; omega
    have hdu : (List.drop n b).length ≤ 1000000000 := by rw [List.length_drop]; omega
    generalize hF : (fun i => !nbit (b.drop n) i || decide (nbit s i = nbit b i)) = F
    refine ⟨fun y _ => 0 ≤ y.1 ∧ y.1 ≤ 8 * (n : Int) ∧ (List.range y.1.toNat).all F = true, fun y _ => (8 * (n : Int) - y.1).toNat, ⟨Int.le_refl 0, by simp only; omega, rfl⟩, ?_⟩
    rintro ⟨i, q, _⟩ z _ ⟨i0, i1, ha⟩
    simp only at i0 i1 ha ⊢
    have e6 : IntKind.i64.wrap (i + 1) = i + 1 := wrapK _ (by omega) (by omega)
    simp only [e6]
    refine ⟨fun hlt => ⟨⟨by omega, by omega⟩, ⟨i0, by omega, hdu⟩, ?_⟩, fun hge => by rw [show 8 * n = i.toNat by omega, ha]⟩
    have hbad : F i.toNat = false → (List.range (8 * n)).all F = false := fun h => range_bad (by omega) h
    have hgood : F i.toNat = true → (0 ≤ i + 1 ∧ i + 1 ≤ 8 * (n : Int) ∧ (List.range (i + 1).toNat).all F = true) ∧ (8 * (n : Int) - (i + 1)).toNat < (8 * (n : Int) - i).toNat := fun h => ⟨⟨by omega, by omega, by rw [show (i + 1).toNat = i.toNat + 1 by omega, range_step, ha, h]; rfl⟩, by omega⟩
    have hFi : F i.toNat = (!nbit (b.drop n) i.toNat || decide (nbit s i.toNat = nbit b i.toNat)) := by rw [← hF]
    rw [hFi] at hbad hgood
    have q2 : i < 8 * (s.length : Int) := by omega
    have q3 : i < 8 * (b.length : Int) := by omega
    generalize nbit (b.drop n) i.toNat = M at *
    rintro ⟨y1, _⟩ _ ey1
    simp only at ey1 ⊢
    subst ey1
    refine ⟨fun h => ⟨h, h, ⟨i0, q2, by omega⟩, ?_⟩, fun h => ?_⟩
    . have hM : M = true := (bit_one M).1 h
      subst hM
      rintro ⟨y2, _⟩ _ ey2
      simp only at ey2 ⊢
      refine ⟨h, h, ⟨i0, q3, by omega⟩, ?_⟩
      rintro ⟨y3, _⟩ _ ey3
      simp only at ey3 ⊢
      subst ey2 ey3
      generalize nbit s i.toNat = C1 at *
      generalize nbit b i.toNat = C2 at *
      cases C1 <;> cases C2
      . exact ⟨fun h => absurd rfl h, fun _ => hgood rfl⟩
      . exact ⟨fun _ => (hbad rfl).symm, fun h => absurd h (by decide)⟩
      . exact ⟨fun _ => (hbad rfl).symm, fun h => absurd h (by decide)⟩
      . exact ⟨fun h => absurd rfl h, fun _ => hgood rfl⟩
    . have hM : M = false := by
        cases M
        . rfl
        . simp at h
      subst hM
      exact hgood rfl
theorem h41 : c_r14_lies.ok Tryz.prog GL 41 := conO_ok (H := {}) (mkEnvO_ok (gl := GL) (l := [(67, conSem c_r14_cut), (68, conSem c_r13_Match), (9, conSem c_r14_Below), (36, conSem c_r12_Decode), (69, conSem c_r12_Begins), (37, conSem c_r14_bit)]) (q := []) (d := []) _ [1000000,3000002] tyOk (by kernel_rfl) ⟨h67.call, h68.call, h9.call, h36.call, h69.call, h37.call, trivial⟩ trivial trivial) (by kernel_rfl) (by kernel_rfl) (Eq.mp e41 k41)
def t14 : Prop :=
  ∀ (x : q40), (q393 x) -> List.length x.1.2 <= q153 /\ List.length x.2.1.2 <= q153 -> List.length [SV.dat q183 x.1.1, SV.dat Kd.str x.1.2] <= q89 /\ List.length [SV.dat q183 x.2.1.1, SV.dat
  Kd.str x.2.1.2] <= q89 /\ (decide (x.1.1 ≠ x.2.1.1) = false -> True) /\ (decide (x.1.1 ≠ x.2.1.1) = false -> (decide (x.1.1 ≠ x.2.1.1) == false) = true /\ List.length x.1.2 <= q153 /\ (∀ (y
  : q4), (q67 y) -> y.1 = mayT x.1.1 x.1.2 -> ((!y.1) = false -> True) /\ ((!y.1) = false -> ((!y.1) == false) = true /\ List.length x.2.1.2 <= q153 /\ (∀ (y : q4), (q67 y) -> y.1 = mayG
  x.2.1.1 x.2.1.2 -> ((!y.1) = true -> false = allT x.1 x.2.1) /\ ((!y.1) = false -> (decide (x.2.1.1 = q94) = true -> True) /\ (decide (x.2.1.1 = q94) = true -> (decide (x.2.1.1 = q94) ==
  true) = true /\ True) /\ (decide (x.2.1.1 = q94) = true -> (decide (x.2.1.1 = q94) == true) = true /\ List.length x.2.1.2 <= q103 /\ (∀ (y : q4), (q67 y) -> y.1 = wildD x.2.1.2 -> (y.1 =
  true -> (q56 <= q94 /\ q94 <= (lnZ x.2.1.2)) /\ (List.length x.1.2 <= q153 /\ List.length (q414 x) <= q153 /\ mayT x.1.1 x.1.2 = true /\ (x.1.1 = q92 -> emailD (q414 x) = true) /\ (x.1.1 =
  q453 -> namedD (q414 x) = true)) /\ (∀ (y : q4), (q67 y) -> y.1 = liesT x.1.1 x.1.2 (q414 x) -> y.1 = allT x.1 x.2.1) /\ True) /\ (y.1 = false -> (q413 x) /\ (∀ (y : q4), (q67 y) -> y.1 =
  liesT x.1.1 x.1.2 x.2.1.2 -> y.1 = allT x.1 x.2.1) /\ True)) /\ True) /\ (decide (x.2.1.1 = q94) = !true -> (q413 x) /\ (∀ (y : q4), (q67 y) -> y.1 = liesT x.1.1 x.1.2 x.2.1.2 -> y.1 = allT
  x.1 x.2.1) /\ True))) /\ True) /\ ((!y.1) = !false -> false = allT x.1 x.2.1)) /\ True) /\ (decide (x.1.1 ≠ x.2.1.1) = !false -> false = allT x.1 x.2.1)
theorem e14 : t14 = Con.vc c_r14_All GL (mkEnvO ty [(12, conSem c_r14_May), (39, conSem c_r13_May), (40, conSem c_r13_Wild), (41, conSem c_r14_lies)] [] [] [0, 1, 2, 3, 4, 19, 27] [1000000]) {} Tryz.f14.ntmps Tryz.f14.results.toList (bodyOf Tryz.f14) := by kernel_rfl
theorem k14 : t14 := by
  unfold t14
  delta q40 q393 q153 q183 q89 q4 q67 q94 q103 q56 lnZ q414 q92 q453 q413 q489 wbZ q514 q491 q566
  rintro ⟨⟨k, b⟩, ⟨g, s⟩, _⟩ hx hp
  obtain ⟨hb, hs⟩ := hp
  simp only at hb hs
  clear hx
  try dsimp +instances only [dft_int, dft_sl, dft_str]
  simp only [true_and, and_true, eq_self_iff_true, implies_true, reduceCtorEq, false_implies, true_implies, decide_eq_true_eq, decide_eq_false_iff_not, beq_self_eq_true, Bool.not_eq_true', ne_eq, Decidable.not_not, List.nil_append, List.length_singleton, List.length_cons, List.length_nil, Nat.zero_add, Nat.add_zero, Nat.mul_one, and_self, beq_iff_eq, Bool.not_true, Bool.not_false, Bool.not_eq_false', Bool.cond_false_right, Bool.and_eq_true, imp_self, Bool.not_eq_true, Bool.cond_true_left, Bool.or_eq_true]
  refine ⟨by decide, by decide, fun hk => ⟨hk, hb, ?_⟩, fun hk => by simp [allT, hk]⟩
  rintro ⟨m, _⟩ _ em
  simp only at em ⊢
  refine ⟨fun hm => ⟨hm, hs, ?_⟩, fun hm => by rw [allT, ← em, hm]; simp⟩
  rintro ⟨h, _⟩ _ eh
  simp only at eh ⊢
  refine ⟨fun hh => by rw [allT, ← eh, hh]; simp, fun hh => ?_⟩
  have hmk : mayT k b = true := by rw [← em]; exact hm
  have hgk : mayG g s = true := by rw [← eh]; exact hh
  have hA : allT (k, b) (g, s) = liesT k b (if g = 2 then bareT s else s) := by
    unfold allT
    simp only
    rw [decide_eq_true hk, hmk, hgk]; rfl
  rw [hA]
  subst hk
  refine ⟨fun h2 => ⟨h2, by omega, ?_⟩, fun h2 => ⟨⟨hb, hs, hmk, fun h => ?_, fun h => ?_⟩, ?_⟩⟩
  . subst h2
    rintro ⟨y, _⟩ _ ey
    simp only [if_true] at ey ⊢
    have hdw : (dnsD s || wildD s) = true := hgk
    refine ⟨fun hy => ?_, fun hy => ?_⟩
    . have hw : wildD s = true := by rw [← ey]; exact hy
      obtain ⟨e, _⟩ := bare_wild hw
      obtain ⟨r, hr, _⟩ := wild_form hw
      refine ⟨⟨by decide, by rw [hr]; simp; omega⟩, ⟨hb, by rw [List.length_drop]; omega, hmk, fun h => absurd h (by decide), fun h => absurd h (by decide)⟩, ?_⟩
      rintro ⟨z, _⟩ _ ez
      rw [e]; exact ez
    . have hw : wildD s = false := by rw [← ey]; exact hy
      rw [hw, Bool.or_false] at hdw
      refine ⟨⟨hb, hs, hmk, fun h => absurd h (by decide), fun h => absurd h (by decide)⟩, ?_⟩
      rintro ⟨z, _⟩ _ ez
      rw [bare_dns hdw]; exact ez
  . subst h; exact hgk
  . subst h; exact hgk
  . rintro ⟨z, _⟩ _ ez
    rw [if_neg h2]; exact ez
theorem h14 : c_r14_All.ok Tryz.prog GL 14 := conO_ok (H := {}) (mkEnvO_ok (gl := GL) (l := [(12, conSem c_r14_May), (39, conSem c_r13_May), (40, conSem c_r13_Wild), (41, conSem c_r14_lies)]) (q := []) (d := []) _ [1000000] tyOk (by kernel_rfl) ⟨h12.call, h39.call, h40.call, h41.call, trivial⟩ trivial trivial) (by kernel_rfl) (by kernel_rfl) (Eq.mp e14 k14)
def t16 : Prop :=
  ∀ (x : q40), (q393 x) -> List.length x.1.2 <= q153 /\ List.length x.2.1.2 <= q153 -> List.length [SV.dat q183 x.1.1, SV.dat Kd.str x.1.2] <= q89 /\ List.length [SV.dat q183 x.2.1.1, SV.dat
  Kd.str x.2.1.2] <= q89 /\ (List.length x.1.2 <= q153 /\ List.length x.2.1.2 <= q153) /\ (∀ (y : q4), (q67 y) -> y.1 = allT (x.1.1, x.1.2) (x.2.1.1, x.2.1.2) -> (y.1 = true -> true = someT
  x.1 x.2.1) /\ (y.1 = false -> (decide (x.1.1 ≠ q94) = false -> True) /\ (decide (x.1.1 ≠ q94) = false -> (decide (x.1.1 ≠ q94) == false) = true /\ True) /\ (decide (x.1.1 ≠ q94) = false ->
  (decide (x.1.1 ≠ q94) == false) = true /\ True) /\ (decide (x.1.1 ≠ q94) = false -> (decide (x.1.1 ≠ q94) == false) = true) /\ ((q416 x) = false -> True) /\ ((q416 x) = false -> ((q416 x)
  == false) = true /\ List.length x.1.2 <= q153 /\ (∀ (y : q4), (q67 y) -> y.1 = mayT x.1.1 x.1.2 -> ((!y.1) = false -> True) /\ (q148 y) /\ ((!y.1) = false -> ((!y.1) == false) = true /\
  List.length x.2.1.2 <= q103 /\ (∀ (y : q4), (q67 y) -> y.1 = wildD x.2.1.2 -> ((!y.1) = true -> false = someT x.1 x.2.1) /\ ((!y.1) = false -> List.length x.1.2 <= q103 /\ (∀ (y : q14),
  (q149 y) -> y.1 = labelsD x.1.2 -> (q56 <= q94 /\ q94 <= (lnZ x.2.1.2)) /\ List.length (q414 x) <= q103 /\ (∀ (y_1 : q14), (q149 y_1) -> y_1.1 = labelsD (q414 x) -> (decide (q417 y y_1) =
  true -> True) /\ (q415 y y_1) /\ (decide (q417 y y_1) = true -> True) /\ (q415 y y_1) /\ (decide (q417 y y_1) = true -> (q495 y y_1) = true /\ (q56 <= q94 /\ q94 <= (lnZ x.2.1.2)) /\ True)
  /\ (decide (q417 y y_1) = true -> (q495 y y_1) = true /\ (q495 y y_1) = true /\ (List.length x.1.2 <= q153 /\ List.length (q414 x) <= q153) /\ (∀ (y : q4), (q67 y) -> y.1 = belowD x.1.2
  (q414 x) -> y.1 = someT x.1 x.2.1) /\ True) /\ (decide (q417 y y_1) = !true -> false = someT x.1 x.2.1)) /\ True) /\ True)) /\ True) /\ ((!y.1) = !false -> false = someT x.1 x.2.1)) /\
  True) /\ ((q416 x) = !false -> false = someT x.1 x.2.1))) /\ True
theorem e16 : t16 = Con.vc c_r14_Some GL (mkEnvO ty [(14, conSem c_r14_All), (12, conSem c_r14_May), (40, conSem c_r13_Wild), (29, conSem c_r13_Labels), (9, conSem c_r14_Below)] [] [] [0, 1, 2, 3, 4, 5, 6, 9, 28] [1000000]) {} Tryz.f16.ntmps Tryz.f16.results.toList (bodyOf Tryz.f16) := by kernel_rfl
theorem k16 : t16 := by
  unfold t16
  delta q40 q393 q153 q183 q89 q4 q67 q94 q416 q148 q103 q14 q149 q56 lnZ q414 q417 q415 q495 q489 wbZ q500 wrZ q491 q566
  rintro ⟨⟨k, b⟩, ⟨g, s⟩, _⟩ hx hp
  obtain ⟨hb, hs⟩ := hp
  simp only at hb hs
  clear hx
  try dsimp +instances only [dft_int, dft_sl, dft_str]
  simp only [true_and, and_true, eq_self_iff_true, implies_true, reduceCtorEq, false_implies, true_implies, decide_eq_true_eq, decide_eq_false_iff_not, beq_self_eq_true, Bool.not_eq_true', ne_eq, Decidable.not_not, List.nil_append, List.length_singleton, List.length_cons, List.length_nil, Nat.zero_add, Nat.add_zero, Nat.mul_one, and_self, beq_iff_eq, Bool.not_true, Bool.not_false, Bool.not_eq_false', Bool.cond_false_right, Bool.and_eq_true, imp_self, Bool.not_eq_true, Bool.cond_true_left, Bool.or_eq_true]
  refine ⟨by decide, by decide, ⟨hb, hs⟩, ?_⟩
  rintro ⟨a, _⟩ _ ea
  simp only at ea ⊢
  refine ⟨fun h => (all_some (by rw [← ea]; exact h)).symm, fun h => ⟨fun hk => ⟨hk, hb, ?_⟩, fun hk => ?_⟩⟩
  . have hk2 : k = 2 ∧ g = 2 := by simpa using hk
    obtain ⟨rfl, rfl⟩ := hk2
    rintro ⟨m, _⟩ _ em
    simp only at em ⊢
    refine ⟨fun hm => ⟨hm, by omega, ?_⟩, fun hm => by rw [some_two, ← ea, h, show dnsD b = false from by rw [hm] at em; exact em.symm]; simp⟩
    have hd : dnsD b = true := by rw [hm] at em; exact em.symm
    rintro ⟨w, _⟩ _ ew
    simp only at ew ⊢
    refine ⟨fun hw => ?_, fun hw => ⟨by omega, ?_⟩⟩
    . rw [some_notwild (by rw [← ew]; exact hw), ← ea, h]
    . have hw2 : wildD s = true := by rw [← ew]; exact hw
      have hS : someT (2, b) (2, s) = (decide ((labelsD b).length = (labelsD (s.drop 2)).length + 1) && belowD b (s.drop 2)) := by
        rw [some_two, ← ea, h]
        simp only [hd, hw2, Bool.or_true, Bool.true_and, Bool.false_or]
        exact some_doc hw2 hd
      obtain ⟨r, hr, _⟩ := wild_form hw2
      have h2s : 2 ≤ (s.length : Int) := by rw [hr]; simp; omega
      rintro ⟨l, _⟩ _ el
      refine ⟨⟨by decide, h2s⟩, by rw [List.length_drop]; omega, ?_⟩
      rintro ⟨x, _⟩ _ ex
      simp only at el ex ⊢
      have lx : x.length ≤ s.length + 1 := by
        rw [ex]
        have := (labels_len (s.drop 2)).1
        rw [List.length_drop] at this; omega
      rw [wrapK ((x.length : Int) + 1) (by omega) (by omega), hS, ← el, ← ex]
      refine ⟨fun h => ⟨h, by decide, h2s⟩, fun h => ⟨h, h, ⟨hb, by rw [List.length_drop]; omega⟩, ?_⟩, fun h => by rw [decide_eq_false (by omega)]; rfl⟩
      rintro ⟨y, _⟩ _ ey
      simp only at ey ⊢
      rw [decide_eq_true (by omega), ey]; rfl
  . by_cases hg : g = 2
    . subst hg
      have hk2 : k ≠ 2 := by rcases hk with hk | hk; exact hk; exact absurd rfl hk
      rw [some_two, ← ea, h]
      simp [hk2]
    . rw [some_other hg, ← ea, h]
theorem h16 : c_r14_Some.ok Tryz.prog GL 16 := conO_ok (H := {}) (mkEnvO_ok (gl := GL) (l := [(14, conSem c_r14_All), (12, conSem c_r14_May), (40, conSem c_r13_Wild), (29, conSem c_r13_Labels), (9, conSem c_r14_Below)]) (q := []) (d := []) _ [1000000] tyOk (by kernel_rfl) ⟨h14.call, h12.call, h40.call, h29.call, h9.call, trivial⟩ trivial trivial) (by kernel_rfl) (by kernel_rfl) (Eq.mp e16 k16)
end Go.Proofs.YtgnlcpoeepfdoaaGreatDoor
end
section
namespace Go.Proofs.YtgnlcpoeepfdoaaGreatDoor
open Go Go.Vc Go.Pl Go.Proofs
end Go.Proofs.YtgnlcpoeepfdoaaGreatDoor
end
section
namespace Go.Proofs.YtgnlcpoeepfdoaaGreatDoor
open Go Go.Vc Go.Pl Go.Proofs
set_option linter.unusedVariables false
set_option linter.unusedSimpArgs false
end Go.Proofs.YtgnlcpoeepfdoaaGreatDoor
end
section
namespace Go.Proofs.YtgnlcpoeepfdoaaGreatDoor
open Go Go.Vc Go.Pl Go.Proofs
end Go.Proofs.YtgnlcpoeepfdoaaGreatDoor
end
section
namespace Go.Proofs.YtgnlcpoeepfdoaaGreatDoor
open Go Go.Vc Go.Pl Go.Proofs
set_option linter.unusedVariables false
set_option linter.unusedSimpArgs false
end Go.Proofs.YtgnlcpoeepfdoaaGreatDoor
end
