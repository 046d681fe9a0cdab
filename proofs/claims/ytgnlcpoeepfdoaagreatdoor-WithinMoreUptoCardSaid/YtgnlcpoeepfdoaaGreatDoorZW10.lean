/- Texts of a verified walk, led together: Within2A, Within2W, R14A, R14W, Law14aA, Law14aW, Law14cA, Law14cW, R14bA, R14bW, Law14dA, Law14dW, Law14eA, Law14eW. -/
import Derived.Test.YtgnlcpoeepfdoaaGreatDoorZW09
import Derived.Test.YtgnlcpoeepfdoaaGreatDoorZV15
set_option linter.unusedVariables false
set_option linter.unusedSimpArgs false
section
namespace Go.Proofs.YtgnlcpoeepfdoaaGreatDoor
open Go Go.Vc Go.Pl Go.Proofs
def c_stringslite_TrimPrefix : Con := { args := [.dat .str, .dat .str], res := [.dat .str], pre := fun _ => True, post := fun x y => y.1 = if hasP x.2.1 x.1 then x.1.drop x.2.1.length else x.1 }
def c_strings_TrimPrefix : Con := { args := [.dat .str, .dat .str], res := [.dat .str], pre := fun _ => True, post := fun x y => y.1 = if hasP x.2.1 x.1 then x.1.drop x.2.1.length else x.1 }
def c_within_mask : Con := { args := [.dat .str], res := [.dat .bool], pre := fun x => x.1.length ≤ 1000000000, post := fun x y => y.1 = maskD x.1 }
def c_within_tree_email : Con := { args := [.dat GT, .dat .str], res := [.dat .bool], pre := fun x => x.1.2.length ≤ 100000000 ∧ x.2.1.length ≤ 100000000, post := fun x y => y.1 = mailT x.1.2 x.2.1 }
def c_within_tree_dns : Con := { args := [.dat GT, .dat .str], res := [.dat .bool], pre := fun x => x.1.2.length ≤ 100000000 ∧ x.2.1.length ≤ 100000000, post := fun x y => y.1 = belowD x.2.1 x.1.2 }
def c_within_tree_name : Con := { args := [.dat GT, .dat .str], res := [.dat .bool], pre := fun x => x.1.2.length ≤ 100000000 ∧ x.2.1.length ≤ 100000000 ∧ namedD x.1.2 = true ∧ namedD x.2.1 = true, post := fun x y => y.1 = beginsD (guessD x.2.1) (guessD x.1.2) }
def c_within_tree_ip : Con := { args := [.dat GT, .dat .str], res := [.dat .bool], pre := fun x => x.1.2.length ≤ 100000000 ∧ x.2.1.length ≤ 100000000 ∧ maskD x.1.2 = true, post := fun x y => y.1 = ipT x.1.2 x.2.1 }
def asksN (k : Int) : Nat := if k = 1 then 62 + 1 else if k = 2 then 63 + 1 else if k = 4 then 64 + 1 else if k = 7 then 65 + 1 else 0
def c_within_asks : Con := { args := [.dat I64], res := [.dat .fn], pre := fun _ => True, post := fun x y => y.1 = asksN x.1 }
def c_within_May : Con := { args := [.dat GT], res := [.dat .bool], pre := fun x => x.1.2.length ≤ 100000000, post := fun x y => y.1 = mayT x.1.1 x.1.2 }
def c_within_All : Con := { args := [.dat GT, .dat GT], res := [.dat .bool], pre := fun x => x.1.2.length ≤ 100000000 ∧ x.2.1.2.length ≤ 100000000, post := fun x y => y.1 = allT x.1 x.2.1 }
def c_within_Some : Con := { args := [.dat GT, .dat GT], res := [.dat .bool], pre := fun x => x.1.2.length ≤ 100000000 ∧ x.2.1.2.length ≤ 100000000, post := fun x y => y.1 = someT x.1 x.2.1 }
end Go.Proofs.YtgnlcpoeepfdoaaGreatDoor
end
section
namespace Go.Proofs.YtgnlcpoeepfdoaaGreatDoor
open Go Go.Vc Go.Pl Go.Proofs
set_option linter.unusedVariables false
set_option linter.unusedSimpArgs false
set_option maxRecDepth 20000
theorem and8 {a b : Int} (ha : 0 ≤ a ∧ a ≤ 255) (hb : 0 ≤ b ∧ b ≤ 255) : IntKind.u8.wrap ↑(BitVec.ofInt 8 a &&& BitVec.ofInt 8 b).toNat = ((a.toNat &&& b.toNat : Nat) : Int) := by
  obtain ⟨n, rfl⟩ : ∃ n : Nat, a = n := ⟨a.toNat, by omega⟩
  obtain ⟨m, rfl⟩ : ∃ n : Nat, b = n := ⟨b.toNat, by omega⟩
  rw [wrap_u8m, BitVec.toNat_and, BitVec.ofInt_natCast, BitVec.ofInt_natCast, BitVec.toNat_ofNat, BitVec.toNat_ofNat, Nat.mod_eq_of_lt (by omega), Nat.mod_eq_of_lt (by omega), Int.toNat_natCast, Int.toNat_natCast]
  have : n &&& m < 2 ^ 8 := Nat.and_lt_two_pow n (show m < 2 ^ 8 by omega)
  omega
theorem bit_val {a : Int} (ha : 0 ≤ a ∧ a ≤ 255) {r : Nat} (hr : r ≤ 7) : IntKind.u8.wrap ↑(BitVec.ofInt 8 (a.fdiv (2 ^ min r 8)) &&& BitVec.ofInt 8 1).toNat = a / 2 ^ r % 2 := by
  have key : ∀ a : Fin 256, ∀ r : Fin 8, IntKind.u8.wrap ↑(BitVec.ofInt 8 ((a.val : Int).fdiv (2 ^ min r.val 8)) &&& BitVec.ofInt 8 1).toNat = (a.val : Int) / 2 ^ r.val % 2 := by decide +kernel
  have := key ⟨a.toNat, by omega⟩ ⟨r, by omega⟩
  simpa [Int.toNat_of_nonneg ha.1] using this
abbrev q20 := (Int × Bool × Bool × Unit)
abbrev q21 := ((Int × List Int) × List Int × Unit)
abbrev q334 (p0 : q6) := (Int.tdiv (lnZ p0.1) (2 : Int))
abbrev q331 (p0 : q6) (p1 : q20) := (BitVec.toNat (BitVec.ofInt (8 : Nat) (Int.fdiv (List.getD p0.1 (Int.toNat (wrZ (wrZ (q334 p0) + wrZ (Int.tdiv p1.1 (8 : Int))))) (0 : Int)) ((2 : Int) ^
  min (Int.toNat (wrZ ((7 : Int) - Int.tmod p1.1 (8 : Int)))) (8 : Nat))) &&& BitVec.ofInt (8 : Nat) (1 : Int)))
abbrev q328 (p0 : q6) (p1 : q20) := (↑(q331 p0 p1) : Int)
abbrev q318 (p0 : q6) (p1 : q20) := (bif decide (IntKind.wrap IntKind.u8 (q328 p0 p1) = (1 : Int)) then p1.2.1 else false)
abbrev q289 (p0 : q6) (p1 : q20) := ((q318 p0 p1) == false && (q318 p0 p1) == false)
abbrev q319 (p0 : q6) (p1 : q20) := (IntKind.wrap IntKind.u8 (q328 p0 p1) = (1 : Int))
abbrev q290 (p0 : q6) (p1 : q20) := (!decide (q319 p0 p1))
abbrev q288 (p0 : q6) (p1 : q20) := ((q318 p0 p1) == false && (q318 p0 p1) == false && (!decide (q319 p0 p1)) == true)
abbrev q185 (p0 : q6) (p1 : q20) := ((q289 p0 p1) = true -> (q290 p0 p1) = true -> (q288 p0 p1) = true /\ q329 ≠ q236 /\ True)
abbrev q186 (p0 : q6) (p1 : q20) := ((q289 p0 p1) = true -> (q290 p0 p1) = true -> (q288 p0 p1) = true /\ True)
abbrev q187 (p0 : q6) (p1 : q20) := ((q289 p0 p1) = true -> (q290 p0 p1) = true -> True)
abbrev q291 (p0 : q6) (p1 : q20) := (bif decide (q319 p0 p1) then p1.2.1 else false)
abbrev q188 (p0 : q6) (p1 : q20) := ((q291 p0 p1) == false && (q291 p0 p1) == false && (q290 p0 p1) == true)
abbrev q311 (p0 : q6) (p1 : q20) := (↑(q331 p0 p1) : Int)
abbrev q292 (p0 : q6) (p1 : q20) := (IntKind.wrap IntKind.u8 (q311 p0 p1) = (1 : Int))
abbrev q189 (p0 : q6) (p1 : q20) := (bif bif decide (q292 p0 p1) then p1.2.1 else false then true else bif !decide (q292 p0 p1) then decide (IntKind.wrap IntKind.u8 (↑(BitVec.toNat
  (BitVec.ofInt q299 (Int.fdiv (List.getD p0.1 (Int.toNat (wrZ (Int.tdiv p1.1 q329))) q236) ((2 : Int) ^ min (Int.toNat (wrZ ((7 : Int) - Int.tmod p1.1 (8 : Int)))) (8 : Nat))) &&&
  BitVec.ofInt q299 q240)) : Int) = q240) else false)
abbrev q190 (p0 : q6) (p1 : q20) := ((q291 p0 p1) == false && (q291 p0 p1) == false)
abbrev q191 (p0 : q6) (p1 : q20) := ((q291 p0 p1) = false -> True)
abbrev q192 (p0 : q6) (p1 : q20) := ((q291 p0 p1) == false)
abbrev q193 (p0 : q6) (p1 : q20) := (bif decide (q292 p0 p1) then p1.2.1 else false)
abbrev q194 (p0 : q6) (p1 : q20) := (!decide (q292 p0 p1))
abbrev q195 (p0 : q6) (p1 : q20) := (IntKind.wrap IntKind.u8 (q311 p0 p1) = q240)
abbrev q196 (p0 : q6) := (q329 * wrZ (q334 p0))
abbrev q197 (p0 : q21) := (cutD q284 p0.2.1)
abbrev q198 (p0 : q21) := (cutD q284 p0.1.2)
abbrev q199 (p0 : q21) := (Kd.wf q303 p0.1 /\ wsZ p0.2.1 /\ True)
abbrev q200 (p0 : q21) (p1 : q10) := (IntKind.wrap IntKind.u8 (↑(BitVec.toNat (BitVec.ofInt q299 (List.getD p0.2.1 (Int.toNat p1.1) q236) &&& BitVec.ofInt q299 (List.getD p0.1.2 (Int.toNat
  (wrZ (wrZ (Int.tdiv (lnZ p0.1.2) q248) + p1.1))) q236))) : Int) ≠ List.getD p0.1.2 (Int.toNat p1.1) q236)
abbrev q201 (p0 : q21) := (Int.tdiv (lnZ p0.1.2) q248)
abbrev q293 := (wrZ (wrZ (q308 + (1 : Int)) + (1 : Int)) + (1 : Int))
abbrev q202 := (wrZ (wrZ q293 + q240) < (↑(4 : Nat) : Int))
abbrev q203 := (wrZ q293 < (↑(4 : Nat) : Int))
abbrev q204 := (wrZ q293 + q240)
abbrev q205 := (wrZ (wrZ (q308 + (1 : Int)) + (1 : Int)) + q240)
abbrev q206 := (wrZ (q236 + q240) + q240)
abbrev q207 := (q236 + q240)
abbrev q208 := (↑(4 : Nat) : Int)
abbrev q260 := (100000000 : Nat)
abbrev q209 (p0 : (Int × List Int) × (Int × List Int) × Unit) (p1 : q6) := ((True /\ (∀ (y : Nat × Unit), (Kd.wf Kd.fn y.1 /\ True) -> y.1 = asksN p0.1.1 -> ((y.1 = (63 : Nat) \/ y.1 = (64
  : Nat) \/ y.1 = (65 : Nat) \/ y.1 = (66 : Nat) \/ False) /\ (y.1 = (63 : Nat) -> (List.length p0.1.2 <= q260 /\ List.length p1.1 <= q260) /\ (∀ (y : q4), (wbZ y.1 /\ True) -> y.1 = mailT
  p0.1.2 p1.1 -> y.1 = allT p0.1 p0.2.1) /\ True) /\ (y.1 = (64 : Nat) -> (List.length p0.1.2 <= q260 /\ List.length p1.1 <= q260) /\ (∀ (y : q4), (wbZ y.1 /\ True) -> y.1 = belowD p1.1
  p0.1.2 -> y.1 = allT p0.1 p0.2.1) /\ True) /\ (y.1 = (65 : Nat) -> (List.length p0.1.2 <= q260 /\ List.length p1.1 <= q260 /\ namedD p0.1.2 = true /\ namedD p1.1 = true) /\ (∀ (y : q4),
  (wbZ y.1 /\ True) -> y.1 = beginsD (guessD p1.1) (guessD p0.1.2) -> y.1 = allT p0.1 p0.2.1) /\ True) /\ (y.1 = (66 : Nat) -> (List.length p0.1.2 <= q260 /\ List.length p1.1 <= q260 /\ maskD
  p0.1.2 = true) /\ (∀ (y : q4), (wbZ y.1 /\ True) -> y.1 = ipT p0.1.2 p1.1 -> y.1 = allT p0.1 p0.2.1) /\ True) /\ True) /\ True) /\ True) /\ True)
def t57 : Prop :=
  ∀ (x : q2), (q31 x) -> True -> True /\ (∀ (y : q4), (q44 y) -> y.1 = hasP x.2.1 x.1 -> (y.1 = true -> (q236 <= (lnZ x.2.1) /\ (lnZ x.2.1) <= (lnZ x.1)) /\ List.drop (Int.toNat (lnZ x.2.1))
  x.1 = if hasP x.2.1 x.1 = true then List.drop (List.length x.2.1) x.1 else x.1) /\ (y.1 = false -> x.1 = if hasP x.2.1 x.1 = true then List.drop (List.length x.2.1) x.1 else x.1)) /\ True
theorem e57 : t57 = Con.vc c_stringslite_TrimPrefix GL (mkEnv ty [(89, conSem c_stringslite_HasPrefix)] [] [] [0, 1, 4, 7]) {} Tryz.f57.ntmps Tryz.f57.results.toList (bodyOf Tryz.f57) := by kernel_rfl
theorem k57 : t57 := by
  unfold t57
  delta q2 q31 q4 q44 q236 lnZ wsZ wbZ
  rintro ⟨l, c, _⟩ hx hp
  try dsimp +instances only [dft_int, dft_sl, dft_str]
  simp only [true_and, and_true, eq_self_iff_true, implies_true, reduceCtorEq, false_implies, true_implies, decide_eq_true_eq, decide_eq_false_iff_not, beq_self_eq_true, Bool.not_eq_true', ne_eq, Decidable.not_not, List.nil_append, List.length_singleton, List.length_cons, List.length_nil, Nat.zero_add, Nat.add_zero, Nat.mul_one, and_self, beq_iff_eq, Bool.not_true, Bool.not_false, Bool.not_eq_false', Bool.cond_false_right, Bool.and_eq_true, imp_self, Bool.not_eq_true, Bool.cond_true_left, Bool.or_eq_true]
  rintro ⟨y, _⟩ _ ey
  simp only at ey ⊢
  refine ⟨fun h => ?_, fun h => by rw [← ey, h]; rfl⟩
  have hq := ey.symm.trans h
  rw [← ey, h]
  unfold hasP at hq
  have := congrArg List.length (of_decide_eq_true hq)
  rw [List.length_take] at this
  exact ⟨⟨by omega, by omega⟩, by simp⟩
theorem h57 : c_stringslite_TrimPrefix.ok Tryz.prog GL 57 := con_ok (H := {}) (mkEnv_ok (gl := GL) (l := [(89, conSem c_stringslite_HasPrefix)]) (q := []) (d := []) _ tyOk (by kernel_rfl) ⟨h89.call, trivial⟩ trivial trivial) (by kernel_rfl) (by kernel_rfl) (Eq.mp e57 k57)
def t33 : Prop :=
  ∀ (x : q2), (q31 x) -> True -> True /\ (∀ (y : q6), (q64 y) -> (y.1 = if hasP x.2.1 x.1 = true then List.drop (List.length x.2.1) x.1 else x.1) -> y.1 = if hasP x.2.1 x.1 = true then
  List.drop (List.length x.2.1) x.1 else x.1) /\ True
theorem e33 : t33 = Con.vc c_strings_TrimPrefix GL (mkEnv ty [(57, conSem c_stringslite_TrimPrefix)] [] [] [0, 1, 4]) {} Tryz.f33.ntmps Tryz.f33.results.toList (bodyOf Tryz.f33) := by kernel_rfl
theorem k33 : t33 := by
  unfold t33
  delta q2 q31 q6 q64 wsZ
  rintro ⟨l, c, _⟩ hx hp
  try dsimp +instances only [dft_int, dft_sl, dft_str]
  simp only [true_and, and_true, eq_self_iff_true, implies_true, reduceCtorEq, false_implies, true_implies, decide_eq_true_eq, decide_eq_false_iff_not, beq_self_eq_true, Bool.not_eq_true', ne_eq, Decidable.not_not, List.nil_append, List.length_singleton, List.length_cons, List.length_nil, Nat.zero_add, Nat.add_zero, Nat.mul_one, and_self, beq_iff_eq, Bool.not_true, Bool.not_false, Bool.not_eq_false', Bool.cond_false_right, Bool.and_eq_true, imp_self, Bool.not_eq_true, Bool.cond_true_left, Bool.or_eq_true]
theorem h33 : c_strings_TrimPrefix.ok Tryz.prog GL 33 := con_ok (H := {}) (mkEnv_ok (gl := GL) (l := [(57, conSem c_stringslite_TrimPrefix)]) (q := []) (d := []) _ tyOk (by kernel_rfl) ⟨h57.call, trivial⟩ trivial trivial) (by kernel_rfl) (by kernel_rfl) (Eq.mp e33 k33)
def t34 : Prop :=
  ∀ (x : q6), (q64 x) -> List.length x.1 <= q92 -> (decide ((lnZ x.1) ≠ q329) = true -> True) /\ (decide ((lnZ x.1) ≠ q329) = true -> (decide ((lnZ x.1) ≠ q329) == true) = true /\ True) /\
  (decide ((lnZ x.1) ≠ q329) = true -> (decide ((lnZ x.1) ≠ q329) == true) = true /\ True) /\ (decide ((lnZ x.1) ≠ q329) = true -> (decide ((lnZ x.1) ≠ q329) == true) = true) /\ ((bif decide
  ((lnZ x.1) ≠ q329) then decide ((lnZ x.1) ≠ (32 : Int)) else false) = true -> false = maskD x.1) /\ ((bif decide ((lnZ x.1) ≠ q329) then decide ((lnZ x.1) ≠ (32 : Int)) else false) = false
  -> q69 ≠ q33 /\ ∃ (I : Int × Bool × Bool × Unit -> Unit -> Prop), ∃ (μ : Int × Bool × Bool × Unit -> Unit -> Nat), (wrZ (q196 x) = wrZ (q196 x) /\ wrZ (q334 x) = wrZ (q334 x) /\ Value.bool
  false = Value.bool false /\ x.1 = x.1 /\ I (q33, false, false, ()) ()) /\ ∀ (y : q20) (z : Unit), (wiZ y.1 /\ wbZ y.2.1 /\ wbZ y.2.2.1 /\ True) -> True -> I y z -> (decide (y.1 < wrZ (q196
  x)) = true -> q329 ≠ q33 /\ (q33 <= wrZ (wrZ (q334 x) + wrZ (Int.tdiv y.1 (8 : Int))) /\ wrZ (wrZ (q334 x) + wrZ (Int.tdiv y.1 (8 : Int))) < (lnZ x.1)) /\ q329 ≠ q33 /\ q33 <= wrZ ((7 :
  Int) - Int.tmod y.1 q329) /\ (decide (q195 x y) = true -> True) /\ (decide (q195 x y) = true -> (decide (q195 x y) == true) = true) /\ (q191 x y) /\ ((q193 x y) = false -> (q192 x y) = true
  /\ True) /\ (q191 x y) /\ (q187 x y) /\ (q187 x y) /\ (q185 x y) /\ ((q190 x y) = true -> (q194 x y) = true -> (q188 x y) = true /\ (q188 x y) = true /\ (q33 <= wrZ (Int.tdiv y.1 q329) /\
  wrZ (Int.tdiv y.1 q329) < (lnZ x.1)) /\ True) /\ (q187 x y) /\ (q185 x y) /\ (q186 x y) /\ ((q190 x y) = true -> (q194 x y) = true -> (q188 x y) = true /\ (q188 x y) = true /\ q33 <= wrZ
  ((7 : Int) - Int.tmod y.1 q329) /\ True) /\ (q186 x y) /\ (q186 x y) /\ ((q193 x y) = false -> (q190 x y) = true /\ ((q194 x y) = true -> (q188 x y) = true) /\ True) /\ ((q193 x y) = false
  -> (q192 x y) = true) /\ ((q189 x y) = true -> false = maskD x.1) /\ ((q189 x y) = false -> (y.2.1 = false -> True) /\ (y.2.1 = false -> (y.2.1 == false) = true /\ True) /\ (y.2.1 = false
  -> (y.2.1 == false) = true) /\ wrZ (q196 x) = wrZ (q196 x) /\ wrZ (q334 x) = wrZ (q334 x) /\ Value.bool false = Value.bool false /\ x.1 = x.1 /\ I (wrZ (y.1 + q66), bif y.2.1 then true else
  !decide (q195 x y), y.2.2.1, ()) () /\ μ (wrZ (y.1 + q66), bif y.2.1 then true else !decide (q195 x y), y.2.2.1, ()) () < μ y z)) /\ (decide (y.1 < wrZ (q196 x)) = false -> true = maskD
  x.1))
theorem e34 : t34 = Con.vc c_within_mask GL (mkEnvO ty [] [] [] [0, 2, 3, 4, 5, 6, 14, 19, 20, 21, 54] [1000000]) {} Tryz.f34.ntmps Tryz.f34.results.toList (bodyOf Tryz.f34) := by kernel_rfl
theorem k34 : t34 := by
  unfold t34
  delta q6 q64 q92 lnZ q329 q69 q33 wrZ q196 q334 q20 wiZ wbZ q195 q191 q193 q192 q187 q185 q190 q194 q188 q186 q189 q66 wsZ q311 q240 q291 q292 q289 q290 q288 q236 q299 q331 q319 q318 q328
  rintro ⟨s, _⟩ hx hp
  have hb : Bys s := str_bys hx.1
  have hp : s.length ≤ 1000000000 := hp
  clear hx
  try dsimp +instances only [dft_int, dft_sl, dft_str]
  simp only [true_and, and_true, eq_self_iff_true, implies_true, reduceCtorEq, false_implies, true_implies, decide_eq_true_eq, decide_eq_false_iff_not, beq_self_eq_true, Bool.not_eq_true', ne_eq, Decidable.not_not, List.nil_append, List.length_singleton, List.length_cons, List.length_nil, Nat.zero_add, Nat.add_zero, Nat.mul_one, and_self, beq_iff_eq, Bool.not_true, Bool.not_false, Bool.not_eq_false', Bool.cond_false_right, Bool.and_eq_true, imp_self, Bool.not_eq_true, Bool.cond_true_left, Bool.or_eq_true]
  refine ⟨fun h => ?_, fun h => ⟨by decide, ?_⟩⟩
  . rw [maskD, decide_eq_false (by omega)]; rfl
  have hL : s.length = 8 ∨ s.length = 32 := by simp at h; omega
  obtain ⟨n, hn, hL2⟩ : ∃ n : Nat, s.length / 2 = n ∧ s.length = 2 * n := ⟨s.length / 2, rfl, by omega⟩
  have hnb : n = 4 ∨ n = 16 := by omega
  have e1 : IntKind.i64.wrap ((s.length : Int).tdiv 2) = (n : Int) := by rw [Int.tdiv_eq_ediv_of_nonneg (by omega), wrapK _ (by omega) (by omega)]; omega
  have e2 : IntKind.i64.wrap (8 * (n : Int)) = 8 * n := wrapK _ (by omega) (by omega)
  simp only [e1, e2]
  have hM : maskD s = (List.range (8 * n)).all (okM (s.drop n) s) := by rw [maskD, decide_eq_true hL, hn, Bool.true_and]
  rw [hM]
  refine ⟨fun y _ => 0 ≤ y.1 ∧ y.1 ≤ 8 * (n : Int) ∧ (List.range y.1.toNat).all (okM (s.drop n) s) = true ∧ y.2.1 = (decide (0 < y.1) && !nbit (s.drop n) (y.1.toNat - 1)), fun y _ => (8 * (n : Int) - y.1).toNat, ⟨Int.le_refl 0, by simp only; omega, rfl, rfl⟩, ?_⟩
  rintro ⟨i, en, q, _⟩ z _ ⟨i0, i1, ha, he⟩
  simp only at i0 i1 ha he ⊢
  have e3 : IntKind.i64.wrap (i.tdiv 8) = i / 8 := by rw [Int.tdiv_eq_ediv_of_nonneg i0, wrapK _ (by omega) (by omega)]
  have e5 : IntKind.i64.wrap (7 - i.tmod 8) = 7 - i % 8 := by rw [Int.tmod_eq_emod_of_nonneg i0, wrapK _ (by omega) (by omega)]
  have e4 : IntKind.i64.wrap ((n : Int) + i / 8) = n + i / 8 := wrapK _ (by omega) (by omega)
  have e6 : IntKind.i64.wrap (i + 1) = i + 1 := wrapK _ (by omega) (by omega)
  have hr : (7 - i % 8).toNat ≤ 7 := by omega
  have b1 := bit_val (bys_gd hb ((n : Int) + i / 8).toNat) hr
  have b2 := bit_val (bys_gd hb (i / 8).toNat) hr
  simp only [e3, e4, e5, e6, b1, b2]
  have p1 : (s.getD ((n : Int) + i / 8).toNat 0 / 2 ^ (7 - i % 8).toNat % 2 = 1) ↔ nbit (s.drop n) i.toNat = true := by
    have hg : (s.drop n).getD (i.toNat / 8) 0 = s.getD ((n : Int) + i / 8).toNat 0 := by
      rw [List.getD_eq_getElem?_getD, List.getD_eq_getElem?_getD, List.getElem?_drop]
      congr 2
      omega
    rw [nbit, decide_eq_true_eq, hg, show (7 - i % 8).toNat = 7 - i.toNat % 8 by omega]
  have p2 : (s.getD (i / 8).toNat 0 / 2 ^ (7 - i % 8).toNat % 2 = 1) ↔ nbit s i.toNat = true := by
    rw [nbit, decide_eq_true_eq, show (i / 8).toNat = i.toNat / 8 by omega, show (7 - i % 8).toNat = 7 - i.toNat % 8 by omega]
  simp only [p1, p2, Bool.decide_eq_true]
  have hok : okM (s.drop n) s i.toNat = (if nbit (s.drop n) i.toNat then !en else !nbit s i.toNat) := by
    rw [okM, he]
    have : decide (0 < i) = decide (0 < i.toNat) := decide_eq_decide.2 (by omega)
    rw [this]
  have hst : (List.range (i + 1).toNat).all (okM (s.drop n) s) = okM (s.drop n) s i.toNat := by rw [show (i + 1).toNat = i.toNat + 1 by omega, range_step, ha, Bool.true_and]
  have hpos : decide (0 < i + 1) = true := decide_eq_true (by omega)
  have hpr : (i + 1).toNat - 1 = i.toNat := by omega
  rw [hst, hpos, hpr]
  refine ⟨fun hlt => ?_, fun hge => by rw [show 8 * n = i.toNat by omega, ha]⟩
  have hbad : okM (s.drop n) s i.toNat = false → (List.range (8 * n)).all (okM (s.drop n) s) = false := fun h => range_bad (by omega) h
  have q1 : 0 ≤ i / 8 ∧ i / 8 < (s.length : Int) := by omega
  have q2 : 0 ≤ 7 - i % 8 := by omega
  have q3 : 0 ≤ (n : Int) + i / 8 ∧ (n : Int) + i / 8 < (s.length : Int) := by omega
  have q4 : (8 * (n : Int) - (i + 1)).toNat < (8 * (n : Int) - i).toNat := by omega
  have q5 : 0 ≤ i + 1 ∧ i + 1 ≤ 8 * (n : Int) := by omega
  rw [hok] at hbad ⊢
  clear hok hst hpos hpr p1 p2 b1 b2 e1 e2 e3 e4 e5 e6 ha he
  generalize nbit (s.drop n) i.toNat = M at *
  generalize nbit s i.toNat = B at *
  generalize (List.range (8 * n)).all (okM (s.drop n) s) = A at *
  cases M <;> cases B <;> cases en <;> simp [q1, q2, q3, q4, q5] at hbad ⊢ <;> first | exact hbad | exact hbad.symm | exact ⟨by omega, hbad⟩ | omega
theorem h34 : c_within_mask.ok Tryz.prog GL 34 := conO_ok (H := {}) (mkEnvO_ok (gl := GL) (l := []) (q := []) (d := []) _ [1000000] tyOk (by kernel_rfl) trivial trivial trivial) (by kernel_rfl) (by kernel_rfl) (Eq.mp e34 k34)
def t62 : Prop :=
  ∀ (x : q21), (q199 x) -> List.length x.1.2 <= q87 /\ List.length x.2.1 <= q87 -> List.length [SV.dat q107 x.1.1, SV.dat Kd.str x.1.2] <= q65 /\ (List.length x.2.1 < q32 /\ List.length (bs {
  data := #[(64 : UInt8)] }) = q36) /\ (∀ (y : q3), (q37 y) -> y.1 = (q197 x).1 /\ y.2.1 = (q197 x).2.1 /\ y.2.2.1 = (q197 x).2.2 -> (List.length x.1.2 < q32 /\ List.length (bs { data :=
  #[(64 : UInt8)] }) = q36) /\ (∀ (y_1 : q3), (q37 y_1) -> y_1.1 = (q198 x).1 /\ y_1.2.1 = (q198 x).2.1 /\ y_1.2.2.1 = (q198 x).2.2 -> (y_1.2.2.1 = true -> (decide (y_1.1 = y.1) = true ->
  True) /\ (decide (y_1.1 = y.1) = true -> True) /\ (decide (y_1.1 = y.1) = true -> (decide (y_1.1 = y.1) == true) = true /\ (decide (y_1.1 = y.1) == true) = true /\ (List.length y_1.2.1 <=
  q92 /\ List.length y.2.1 <= q92) /\ (∀ (y_2 : q4), (q44 y_2) -> y_2.1 = matchD y_1.2.1 y.2.1 -> y_2.1 = mailT x.1.2 x.2.1) /\ True) /\ (decide (y_1.1 = y.1) = !true -> false = mailT x.1.2
  x.2.1)) /\ (y_1.2.2.1 = false -> True /\ (∀ (y_2 : q5), (wsZ y_2.1 /\ wbZ y_2.2.1 /\ True) -> (y_2.1 = if hasP q170 x.1.2 = true then List.drop (List.length q170) x.1.2 else x.1.2) /\
  y_2.2.1 = hasP q170 x.1.2 -> (y_2.2.1 = true -> (List.length y.2.1 <= q92 /\ List.length y_2.1 <= q92) /\ (∀ (y_3 : q4), (q44 y_3) -> y_3.1 = belowD y.2.1 y_2.1 -> (y_3.1 = true -> True) /\
  (y_3.1 = true -> True) /\ (y_3.1 = true -> (y_3.1 == true) = true /\ (y_3.1 == true) = true /\ (List.length y_2.1 <= q92 /\ List.length y.2.1 <= q92) /\ (∀ (y_4 : q4), (q44 y_4) -> y_4.1 =
  matchD y_2.1 y.2.1 -> (!y_4.1) = mailT x.1.2 x.2.1) /\ True) /\ (y_3.1 = !true -> false = mailT x.1.2 x.2.1)) /\ True) /\ (y_2.2.1 = false -> (List.length x.1.2 <= q92 /\ List.length y.2.1
  <= q92) /\ (∀ (y_3 : q4), (q44 y_3) -> y_3.1 = matchD x.1.2 y.2.1 -> y_3.1 = mailT x.1.2 x.2.1) /\ True)) /\ True)) /\ True) /\ True
theorem e62 : t62 = Con.vc c_within_tree_email GL (mkEnvO ty [(46, conSem c_strings_Cut), (19, conSem c_host_Match), (42, conSem c_strings_CutPrefix), (8, conSem c_within_Below)] [] [] [0, 1, 2, 4, 5, 6, 8, 9, 10, 11, 12, 26, 41] [1000000]) {} Tryz.f62.ntmps Tryz.f62.results.toList (bodyOf Tryz.f62) := by kernel_rfl
theorem k62 : t62 := by
  unfold t62
  delta q21 q199 q87 q107 q65 q32 q36 q3 q37 q197 q198 q92 q4 q44 q5 wsZ wbZ q170 q303 q284 q308
  rintro ⟨⟨k, b⟩, s, _⟩ hx hp
  obtain ⟨hb, hs⟩ := hp
  simp only at hb hs
  clear hx
  try dsimp +instances only [dft_int, dft_sl, dft_str]
  simp only [true_and, and_true, eq_self_iff_true, implies_true, reduceCtorEq, false_implies, true_implies, decide_eq_true_eq, decide_eq_false_iff_not, beq_self_eq_true, Bool.not_eq_true', ne_eq, Decidable.not_not, List.nil_append, List.length_singleton, List.length_cons, List.length_nil, Nat.zero_add, Nat.add_zero, Nat.mul_one, and_self, beq_iff_eq, Bool.not_true, Bool.not_false, Bool.not_eq_false', Bool.cond_false_right, Bool.and_eq_true, imp_self, Bool.not_eq_true, Bool.cond_true_left, Bool.or_eq_true]
  have b64 : (bs { data := #[64] }).getD 0 0 = 64 := rfl
  have b46 : bs { data := #[46] } = [46] := rfl
  rw [b64, b46]
  have la := cutD_len s 64
  have lb := cutD_len b 64
  refine ⟨by decide, ⟨by omega, rfl⟩, ?_⟩
  rintro ⟨lo, at', f, _⟩ _ ⟨h1, h2, h3⟩
  refine ⟨⟨by omega, rfl⟩, ?_⟩
  rintro ⟨ow, ho, fu, _⟩ _ ⟨g1, g2, g3⟩
  simp only at h1 h2 h3 g1 g2 g3 ⊢
  refine ⟨fun hf => ⟨fun heq => ⟨heq, heq, ⟨by rw [g2]; omega, by rw [h2]; omega⟩, ?_⟩, fun hne => ?_⟩, fun hf => ?_⟩
  . rintro ⟨r, _⟩ _ er
    simp only at er ⊢
    rw [er, mailT, if_pos (by rw [← g3]; exact hf), ← g1, ← h1, ← g2, ← h2, decide_eq_true heq]; rfl
  . rw [mailT, if_pos (by rw [← g3]; exact hf), ← g1, ← h1, decide_eq_false hne]; rfl
  . rintro ⟨re, ok, _⟩ _ ⟨k1, k2⟩
    simp only at k1 k2 ⊢
    have hm : mailT b s = if hasP [46] b then belowD (cutD 64 s).2.1 (b.drop 1) && !belowD (b.drop 1) (cutD 64 s).2.1 else matchD b (cutD 64 s).2.1 := by rw [mailT, if_neg (by rw [← g3, hf]; decide)]
    refine ⟨fun h => ?_, fun h => ?_⟩
    . have hre : re = b.drop 1 := by rw [k1, if_pos (by rw [← k2]; exact h)]; rfl
      refine ⟨⟨by rw [h2]; omega, by rw [hre, List.length_drop]; omega⟩, ?_⟩
      rintro ⟨v, _⟩ _ ev
      simp only at ev ⊢
      rw [hm, if_pos (by rw [← k2]; exact h), ← h2, ← hre]
      refine ⟨fun hv => ⟨hv, hv, ⟨by rw [hre, List.length_drop]; omega, by rw [h2]; omega⟩, ?_⟩, fun hv => by rw [← ev, hv]; rfl⟩
      rintro ⟨u, _⟩ _ eu
      simp only at eu ⊢
      rw [eu, below_strict (by rw [← ev]; exact hv), ← ev, hv, Bool.true_and]
    . refine ⟨⟨by omega, by rw [h2]; omega⟩, ?_⟩
      rintro ⟨u, _⟩ _ eu
      simp only at eu ⊢
      rw [hm, if_neg (by rw [← k2, h]; decide), eu, h2]
theorem h62 : c_within_tree_email.ok Tryz.prog GL 62 := conO_ok (H := {}) (mkEnvO_ok (gl := GL) (l := [(46, conSem c_strings_Cut), (19, conSem c_host_Match), (42, conSem c_strings_CutPrefix), (8, conSem c_within_Below)]) (q := []) (d := []) _ [1000000] tyOk (by kernel_rfl) ⟨h46.call, h19.call, h42.call, h8.call, trivial⟩ trivial trivial) (by kernel_rfl) (by kernel_rfl) (Eq.mp e62 k62)
def t63 : Prop :=
  ∀ (x : q21), (q199 x) -> List.length x.1.2 <= q87 /\ List.length x.2.1 <= q87 -> List.length [SV.dat q107 x.1.1, SV.dat Kd.str x.1.2] <= q65 /\ (List.length x.2.1 <= q92 /\ List.length
  x.1.2 <= q92) /\ (∀ (y : q4), (q44 y) -> y.1 = belowD x.2.1 x.1.2 -> y.1 = belowD x.2.1 x.1.2) /\ True
theorem e63 : t63 = Con.vc c_within_tree_dns GL (mkEnv ty [(8, conSem c_within_Below)] [] [] [0, 1, 2, 4]) {} Tryz.f63.ntmps Tryz.f63.results.toList (bodyOf Tryz.f63) := by kernel_rfl
theorem k63 : t63 := by
  unfold t63
  delta q21 q199 q87 q107 q65 q92 q4 q44 q303 wsZ wbZ
  rintro ⟨⟨k, b⟩, s, _⟩ hx hp
  obtain ⟨hb, hs⟩ := hp
  simp only at hb hs
  try dsimp +instances only [dft_int, dft_sl, dft_str]
  simp only [true_and, and_true, eq_self_iff_true, implies_true, reduceCtorEq, false_implies, true_implies, decide_eq_true_eq, decide_eq_false_iff_not, beq_self_eq_true, Bool.not_eq_true', ne_eq, Decidable.not_not, List.nil_append, List.length_singleton, List.length_cons, List.length_nil, Nat.zero_add, Nat.add_zero, Nat.mul_one, and_self, beq_iff_eq, Bool.not_true, Bool.not_false, Bool.not_eq_false', Bool.cond_false_right, Bool.and_eq_true, imp_self, Bool.not_eq_true, Bool.cond_true_left, Bool.or_eq_true]
  exact ⟨by decide, by omega, by omega⟩
theorem h63 : c_within_tree_dns.ok Tryz.prog GL 63 := con_ok (H := {}) (mkEnv_ok (gl := GL) (l := [(8, conSem c_within_Below)]) (q := []) (d := []) _ tyOk (by kernel_rfl) ⟨h8.call, trivial⟩ trivial trivial) (by kernel_rfl) (by kernel_rfl) (Eq.mp e63 k63)
def t64 : Prop :=
  ∀ (x : q21), (q199 x) -> List.length x.1.2 <= q87 /\ List.length x.2.1 <= q87 /\ namedD x.1.2 = true /\ namedD x.2.1 = true -> List.length [SV.dat q107 x.1.1, SV.dat Kd.str x.1.2] <= q65 /\
  lenB x.2.1 <= q87 /\ (∀ (y : q18), (q177 y) -> decQ x.2.1 y.1 y.2.1 = true -> lenB x.1.2 <= q87 /\ (∀ (y_1 : q18), (q177 y_1) -> decQ x.1.2 y_1.1 y_1.2.1 = true -> (List.length y_1.1 <= q92
  /\ (∀ (a : Int × List Int), a ∈ y.1 -> List.length a.2 <= q87) /\ ∀ (a : Int × List Int), a ∈ y_1.1 -> List.length a.2 <= q87) /\ (∀ (y_2 : q4), (q44 y_2) -> y_2.1 = beginsD y.1 y_1.1 ->
  y_2.1 = beginsD (guessD x.2.1) (guessD x.1.2)) /\ True) /\ True) /\ True
theorem e64 : t64 = Con.vc c_within_tree_name GL (mkEnv ty [(96, conSem c_name_Decode), (97, conSem c_name_Begins)] [] [] [0, 1, 2, 4, 5, 7]) {} Tryz.f64.ntmps Tryz.f64.results.toList (bodyOf Tryz.f64) := by kernel_rfl
theorem k64 : t64 := by
  unfold t64
  delta q21 q199 q87 q107 q65 q18 q177 q92 q4 q44 q303 wsZ wiZ wbZ
  rintro ⟨⟨k, b⟩, s, _⟩ hx hp
  obtain ⟨hb, hs, nb, ns⟩ := hp
  simp only at hb hs nb ns
  try dsimp +instances only [dft_int, dft_sl, dft_str]
  simp only [true_and, and_true, eq_self_iff_true, implies_true, reduceCtorEq, false_implies, true_implies, decide_eq_true_eq, decide_eq_false_iff_not, beq_self_eq_true, Bool.not_eq_true', ne_eq, Decidable.not_not, List.nil_append, List.length_singleton, List.length_cons, List.length_nil, Nat.zero_add, Nat.add_zero, Nat.mul_one, and_self, beq_iff_eq, Bool.not_true, Bool.not_false, Bool.not_eq_false', Bool.cond_false_right, Bool.and_eq_true, imp_self, Bool.not_eq_true, Bool.cond_true_left, Bool.or_eq_true]
  refine ⟨by decide, by rw [lenB]; omega, ?_⟩
  rintro ⟨x, e, _⟩ _ h1
  refine ⟨by rw [lenB]; omega, ?_⟩
  rintro ⟨y, f, _⟩ _ h2
  simp only at h1 h2 ⊢
  obtain ⟨rfl, _⟩ := (dec_named h1).2 ns
  obtain ⟨rfl, _⟩ := (dec_named h2).2 nb
  have l1 := guess_len s
  have l2 := guess_len b
  refine ⟨⟨by omega, fun a ha => by have := l1.2 a ha; omega, fun a ha => by have := l2.2 a ha; omega⟩, ?_⟩
  rintro ⟨z, _⟩ _ ez
  exact ez
theorem h64 : c_within_tree_name.ok Tryz.prog GL 64 := con_ok (H := {}) (mkEnv_ok (gl := GL) (l := [(96, conSem c_name_Decode), (97, conSem c_name_Begins)]) (q := []) (d := []) _ tyOk (by kernel_rfl) ⟨h96.call, h97.call, trivial⟩ trivial trivial) (by kernel_rfl) (by kernel_rfl) (Eq.mp e64 k64)
def t65 : Prop :=
  ∀ (x : q21), (q199 x) -> List.length x.1.2 <= q87 /\ List.length x.2.1 <= q87 /\ maskD x.1.2 = true -> List.length [SV.dat q107 x.1.1, SV.dat Kd.str x.1.2] <= q65 /\ q69 ≠ q33 /\ (decide
  ((lnZ x.2.1) ≠ wrZ (q201 x)) = true -> false = ipT x.1.2 x.2.1) /\ (decide ((lnZ x.2.1) ≠ wrZ (q201 x)) = false -> ∃ (I : Int × Bool × Unit -> Unit × Unit -> Prop), ∃ (μ : Int × Bool × Unit
  -> Unit × Unit -> Nat), (wrZ (q201 x) = wrZ (q201 x) /\ Value.bool false = Value.bool false /\ wrZ (q201 x) = wrZ (q201 x) /\ x.1 = x.1 /\ x.2.1 = x.2.1 /\ x.1.1 = x.1.1 /\ x.1.2 = x.1.2 /\
  I (q33, false, ()) ((), ())) /\ ∀ (y : q10) (z : Unit × Unit), (q79 y) -> True /\ True -> I y z -> (decide (y.1 < wrZ (q201 x)) = true -> (q33 <= y.1 /\ y.1 < (lnZ x.2.1)) /\ (q33 <= wrZ
  (wrZ (q201 x) + y.1) /\ wrZ (wrZ (q201 x) + y.1) < (lnZ x.1.2)) /\ (q33 <= y.1 /\ y.1 < (lnZ x.1.2)) /\ (decide (q200 x y) = true -> false = ipT x.1.2 x.2.1) /\ (decide (q200 x y) = false
  -> wrZ (q201 x) = wrZ (q201 x) /\ Value.bool false = Value.bool false /\ wrZ (q201 x) = wrZ (q201 x) /\ x.1 = x.1 /\ x.2.1 = x.2.1 /\ x.1.1 = x.1.1 /\ x.1.2 = x.1.2 /\ I (wrZ (y.1 + q240),
  y.2.1, ()) ((), ()) /\ μ (wrZ (y.1 + q240), y.2.1, ()) ((), ()) < μ y z)) /\ (decide (y.1 < wrZ (q201 x)) = false -> true = ipT x.1.2 x.2.1))
theorem e65 : t65 = Con.vc c_within_tree_ip GL (mkEnvO ty [] [] [] [0, 1, 2, 4, 5, 6, 14, 15, 16, 17, 33] [1000000]) {} Tryz.f65.ntmps Tryz.f65.results.toList (bodyOf Tryz.f65) := by kernel_rfl
theorem k65 : t65 := by
  unfold t65
  delta q21 q199 q87 q107 q65 q69 q33 lnZ wrZ q201 q10 q79 q200 q240 q303 wsZ q248 wiZ wbZ q299 q236
  rintro ⟨⟨k, b⟩, s, _⟩ hx hp
  obtain ⟨hb, hs, hm⟩ := hp
  simp only at hb hs hm
  have wb : Bys b := str_bys hx.1.2
  have ws : Bys s := str_bys hx.2.1
  clear hx
  try dsimp +instances only [dft_int, dft_sl, dft_str]
  simp only [true_and, and_true, eq_self_iff_true, implies_true, reduceCtorEq, false_implies, true_implies, decide_eq_true_eq, decide_eq_false_iff_not, beq_self_eq_true, Bool.not_eq_true', ne_eq, Decidable.not_not, List.nil_append, List.length_singleton, List.length_cons, List.length_nil, Nat.zero_add, Nat.add_zero, Nat.mul_one, and_self, beq_iff_eq, Bool.not_true, Bool.not_false, Bool.not_eq_false', Bool.cond_false_right, Bool.and_eq_true, imp_self, Bool.not_eq_true, Bool.cond_true_left, Bool.or_eq_true]
  rw [← ip_eq wb ws hm]
  obtain ⟨n, hn⟩ : ∃ n : Nat, b.length / 2 = n := ⟨_, rfl⟩
  have e1 : IntKind.i64.wrap ((b.length : Int).tdiv 2) = (n : Int) := by rw [Int.tdiv_eq_ediv_of_nonneg (by omega), wrapK _ (by omega) (by omega)]; omega
  have hI : ipB b s = (decide (s.length = n) && (List.range n).all fun j => decide ((s.getD j 0).toNat &&& (b.getD (n + j) 0).toNat = (b.getD j 0).toNat)) := by rw [ipB, hn]
  simp only [e1]
  rw [hI]
  refine ⟨by decide, by decide, fun h => by rw [decide_eq_false (by omega)]; rfl, fun h => ?_⟩
  rw [decide_eq_true (show s.length = n by omega), Bool.true_and]
  generalize hF : (fun j => decide ((s.getD j 0).toNat &&& (b.getD (n + j) 0).toNat = (b.getD j 0).toNat)) = F
  refine ⟨fun y _ => 0 ≤ y.1 ∧ y.1 ≤ n ∧ (List.range y.1.toNat).all F = true, fun y _ => ((n : Int) - y.1).toNat, ⟨Int.le_refl 0, by simp only; omega, rfl⟩, ?_⟩
  rintro ⟨i, q, _⟩ z _ ⟨i0, i1, ha⟩
  simp only at i0 i1 ha ⊢
  have e4 : IntKind.i64.wrap ((n : Int) + i) = n + i := wrapK _ (by omega) (by omega)
  have e6 : IntKind.i64.wrap (i + 1) = i + 1 := wrapK _ (by omega) (by omega)
  have hv : decide (IntKind.u8.wrap ↑(BitVec.ofInt 8 (s.getD i.toNat 0) &&& BitVec.ofInt 8 (b.getD ((n : Int) + i).toNat 0)).toNat = b.getD i.toNat 0) = F i.toNat := by
    rw [and8 (bys_gd ws _) (bys_gd wb _), ← hF]
    have := bys_gd wb i.toNat
    refine decide_eq_decide.2 ?_
    rw [show ((n : Int) + i).toNat = n + i.toNat by omega]
    omega
  simp only [e4, e6]
  refine ⟨fun hlt => ⟨⟨i0, by omega⟩, ⟨by omega, by omega⟩, ⟨i0, by omega⟩, fun hne => ?_, fun he => ?_⟩, fun hge => ?_⟩
  . rw [decide_eq_false hne] at hv
    exact (range_bad (by omega) hv.symm).symm
  . rw [decide_eq_true he] at hv
    refine ⟨⟨by omega, by omega, ?_⟩, by omega⟩
    rw [show (i + 1).toNat = i.toNat + 1 by omega, range_step, ha, ← hv]; rfl
  . rw [show n = i.toNat by omega, ha]
theorem h65 : c_within_tree_ip.ok Tryz.prog GL 65 := conO_ok (H := {}) (mkEnvO_ok (gl := GL) (l := []) (q := []) (d := []) _ [1000000] tyOk (by kernel_rfl) trivial trivial trivial) (by kernel_rfl) (by kernel_rfl) (Eq.mp e65 k65)
def t38 : Prop :=
  ∀ (x : q1), (q30 x) -> True -> (decide (q33 < q208) = true -> (q33 <= q33 /\ q33 < q208) /\ q68 <= q65 /\ (decide (q66 = x.1) = true -> (63 : Nat) = asksN x.1) /\ (decide (q66 = x.1) =
  false -> (decide (wrZ q207 < q208) = true -> (q33 <= wrZ q207 /\ wrZ q207 < q208) /\ q68 <= q65 /\ (decide (q69 = x.1) = true -> (64 : Nat) = asksN x.1) /\ (decide (q69 = x.1) = false ->
  (decide (wrZ q206 < q208) = true -> (q33 <= wrZ q206 /\ wrZ q206 < q208) /\ q68 <= q65 /\ (decide ((4 : Int) = x.1) = true -> (65 : Nat) = asksN x.1) /\ (decide ((4 : Int) = x.1) = false ->
  (decide q203 = true -> (q33 <= wrZ q205 /\ wrZ q205 < q208) /\ q68 <= q65 /\ (decide ((7 : Int) = x.1) = true -> (66 : Nat) = asksN x.1) /\ (decide ((7 : Int) = x.1) = false -> (decide q202
  = true -> (q33 <= wrZ q204 /\ wrZ q204 < q208) /\ q68 <= q65 /\ (decide (q33 = x.1) = true -> q67 = asksN x.1) /\ (decide (q33 = x.1) = false -> False)) /\ (decide q202 = false -> q67 =
  asksN x.1))) /\ (decide q203 = false -> q67 = asksN x.1))) /\ (decide (wrZ q206 < q208) = false -> q67 = asksN x.1))) /\ (decide (wrZ q207 < q208) = false -> q67 = asksN x.1))) /\ (decide
  (q33 < q208) = false -> q67 = asksN x.1)
theorem e38 : t38 = Con.vc c_within_asks GL (mkEnv ty [] [] [] [0, 2, 3, 5, 11, 12, 13, 14, 20]) {rounds := [(3,5)]} Tryz.f38.ntmps Tryz.f38.results.toList (bodyOf Tryz.f38) := by kernel_rfl
theorem k38 : t38 := by
  unfold t38
  delta q1 q30 q33 q208 q68 q65 q66 wrZ q207 q69 q206 q203 q205 q202 q204 q67 wiZ q236 q240 q293 q308
  rintro ⟨k, _⟩ hx hp
  try dsimp +instances only [dft_int, dft_sl, dft_str]
  simp only [true_and, and_true, eq_self_iff_true, implies_true, reduceCtorEq, false_implies, true_implies, decide_eq_true_eq, decide_eq_false_iff_not, beq_self_eq_true, Bool.not_eq_true', ne_eq, Decidable.not_not, List.nil_append, List.length_singleton, List.length_cons, List.length_nil, Nat.zero_add, Nat.add_zero, Nat.mul_one, and_self, beq_iff_eq, Bool.not_true, Bool.not_false, Bool.not_eq_false', Bool.cond_false_right, Bool.and_eq_true, imp_self, Bool.not_eq_true, Bool.cond_true_left, Bool.or_eq_true]
  have w1 : IntKind.i64.wrap (0 + 1) = 1 := by decide
  have w2 : IntKind.i64.wrap (1 + 1) = 2 := by decide
  have w3 : IntKind.i64.wrap (2 + 1) = 3 := by decide
  have w4 : IntKind.i64.wrap (3 + 1) = 4 := by decide
  simp only [w1, w2, w3, w4]
  rcases (show k = 1 ∨ k = 2 ∨ k = 4 ∨ k = 7 ∨ (k ≠ 1 ∧ k ≠ 2 ∧ k ≠ 4 ∧ k ≠ 7) by omega) with rfl | rfl | rfl | rfl | ⟨a, b, c, d⟩
  . simp [asksN]
  . simp [asksN]
  . simp [asksN]
  . simp [asksN]
  . simp [asksN, a, b, c, d, Ne.symm a, Ne.symm b, Ne.symm c, Ne.symm d]
theorem h38 : c_within_asks.ok Tryz.prog GL 38 := con_ok (H := {rounds := [(3,5)]}) (mkEnv_ok (gl := GL) (l := []) (q := []) (d := []) _ tyOk (by kernel_rfl) trivial trivial trivial) (by kernel_rfl) (by kernel_rfl) (Eq.mp e38 k38)
def t11 : Prop :=
  ∀ (x : q93 × Unit), (Kd.wf q106 x.1 /\ True) -> List.length x.1.2 <= q87 -> List.length [SV.dat q107 x.1.1, SV.dat Kd.str x.1.2] <= q65 /\ (decide (x.1.1 = q66) = true -> List.length x.1.2
  <= q92 /\ (∀ (y : q4), (q44 y) -> y.1 = emailD x.1.2 -> (y.1 = false -> True) /\ (y.1 = false -> (y.1 == false) = true /\ True) /\ (y.1 = false -> (y.1 == false) = true /\ True /\ (∀ (y :
  q6), (q64 y) -> (y.1 = if hasP q170 x.1.2 = true then List.drop (List.length q170) x.1.2 else x.1.2) -> List.length y.1 <= q92 /\ (∀ (y_1 : q4), (q44 y_1) -> y_1.1 = dnsD y.1 -> y_1.1 =
  mayT x.1.1 x.1.2) /\ True) /\ True) /\ (y.1 = !false -> true = mayT x.1.1 x.1.2)) /\ True) /\ (decide (x.1.1 = q66) = false -> (decide (x.1.1 = q69) = true -> List.length x.1.2 <= q92 /\ (∀
  (y : q4), (q44 y) -> y.1 = dnsD x.1.2 -> y.1 = mayT x.1.1 x.1.2) /\ True) /\ (decide (x.1.1 = q69) = false -> (decide (x.1.1 = (4 : Int)) = true -> List.length x.1.2 <= q87 /\ (∀ (y : q4),
  (q44 y) -> y.1 = mayG (4 : Int) x.1.2 -> y.1 = mayT x.1.1 x.1.2) /\ True) /\ (decide (x.1.1 = (4 : Int)) = false -> (decide (x.1.1 = (7 : Int)) = true -> List.length x.1.2 <= q92 /\ (∀ (y :
  q4), (q44 y) -> y.1 = maskD x.1.2 -> y.1 = mayT x.1.1 x.1.2) /\ True) /\ (decide (x.1.1 = (7 : Int)) = false -> false = mayT x.1.1 x.1.2))))
theorem e11 : t11 = Con.vc c_within_May GL (mkEnvO ty [(32, conSem c_host_Email), (25, conSem c_host_DNS), (33, conSem c_strings_TrimPrefix), (18, conSem c_host_May), (34, conSem c_within_mask)] [] [] [0, 1, 2, 4, 5, 16, 21, 27] [1000000,3000001]) {} Tryz.f11.ntmps Tryz.f11.results.toList (bodyOf Tryz.f11) := by kernel_rfl
theorem k11 : t11 := by
  unfold t11
  delta q93 q106 q87 q107 q65 q66 q92 q4 q44 q6 q64 q170 q69 q304 wbZ wsZ
  rintro ⟨⟨k, b⟩, _⟩ hx hp
  have hp : b.length ≤ 100000000 := hp
  clear hx
  try dsimp +instances only [dft_int, dft_sl, dft_str]
  simp only [true_and, and_true, eq_self_iff_true, implies_true, reduceCtorEq, false_implies, true_implies, decide_eq_true_eq, decide_eq_false_iff_not, beq_self_eq_true, Bool.not_eq_true', ne_eq, Decidable.not_not, List.nil_append, List.length_singleton, List.length_cons, List.length_nil, Nat.zero_add, Nat.add_zero, Nat.mul_one, and_self, beq_iff_eq, Bool.not_true, Bool.not_false, Bool.not_eq_false', Bool.cond_false_right, Bool.and_eq_true, imp_self, Bool.not_eq_true, Bool.cond_true_left, Bool.or_eq_true]
  have b46 : bs { data := #[46] } = [46] := rfl
  rw [b46]
  refine ⟨by decide, fun h => ⟨by omega, ?_⟩, fun h1 => ⟨fun h => ⟨by omega, ?_⟩, fun h2 => ⟨fun h => ⟨by omega, ?_⟩, fun h4 => ⟨fun h => ⟨by omega, ?_⟩, fun h7 => ?_⟩⟩⟩⟩
  . rintro ⟨y, _⟩ _ ey
    simp only at ey ⊢
    subst h
    have hd : hasP [46] b = true → emailD b = false := mail_dot
    refine ⟨fun hy => ⟨hy, ?_⟩, fun hy => ?_⟩
    . rintro ⟨z, _⟩ _ ez
      simp only at ez ⊢
      refine ⟨by rw [ez]; split; (rw [List.length_drop]; omega); omega, ?_⟩
      rintro ⟨w, _⟩ _ ew
      simp only at ew ⊢
      rw [ew, ez, mayT, if_pos rfl]
      cases hq : hasP [46] b
      . simp [← ey, hy]
      . simp
    . have he : emailD b = true := by rw [← ey]; exact hy
      rw [mayT, if_pos rfl]
      cases hq : hasP [46] b
      . simp [he]
      . rw [hd hq] at he; cases he
  . rintro ⟨y, _⟩ _ ey
    simp only at ey ⊢
    subst h
    rw [ey]; rfl
  . rintro ⟨y, _⟩ _ ey
    simp only at ey ⊢
    subst h
    rw [ey]; rfl
  . rintro ⟨y, _⟩ _ ey
    simp only at ey ⊢
    subst h
    rw [ey]; rfl
  . rw [mayT, if_neg h1, if_neg h2, if_neg h4, if_neg h7]
theorem h11 : c_within_May.ok Tryz.prog GL 11 := conO_ok (H := {}) (mkEnvO_ok (gl := GL) (l := [(32, conSem c_host_Email), (25, conSem c_host_DNS), (33, conSem c_strings_TrimPrefix), (18, conSem c_host_May), (34, conSem c_within_mask)]) (q := []) (d := []) _ [1000000,3000001] tyOk (by kernel_rfl) ⟨h32.call, h25.call, h33.call, h18.call, h34.call, trivial⟩ trivial trivial) (by kernel_rfl) (by kernel_rfl) (Eq.mp e11 k11)
def t13 : Prop :=
  ∀ (x : q93 × q93 × Unit), (Kd.wf q106 x.1 /\ Kd.wf q106 x.2.1 /\ True) -> List.length x.1.2 <= q87 /\ List.length x.2.1.2 <= q87 -> List.length [SV.dat q107 x.1.1, SV.dat Kd.str x.1.2] <=
  q65 /\ List.length [SV.dat q107 x.2.1.1, SV.dat Kd.str x.2.1.2] <= q65 /\ (decide (x.1.1 ≠ x.2.1.1) = false -> True) /\ (decide (x.1.1 ≠ x.2.1.1) = false -> (decide (x.1.1 ≠ x.2.1.1) ==
  false) = true /\ List.length x.1.2 <= q87 /\ (∀ (y : q4), (q44 y) -> y.1 = mayT x.1.1 x.1.2 -> ((!y.1) = false -> True) /\ ((!y.1) = false -> ((!y.1) == false) = true /\ List.length x.2.1.2
  <= q87 /\ (∀ (y : q4), (q44 y) -> y.1 = mayG x.2.1.1 x.2.1.2 -> ((!y.1) = true -> false = allT x.1 x.2.1) /\ ((!y.1) = false -> ∃ (J : List Int × Unit -> Unit × Unit × Unit -> Prop),
  ((decide (x.2.1.1 = q69) = true -> True /\ (∀ (y : q6), (q64 y) -> (y.1 = if hasP q172 x.2.1.2 = true then List.drop (List.length q172) x.2.1.2 else x.2.1.2) -> Value.bool false =
  Value.bool false /\ Value.bool false = Value.bool false /\ x.1 = x.1 /\ x.2.1 = x.2.1 /\ x.1.1 = x.1.1 /\ x.1.2 = x.1.2 /\ x.2.1.1 = x.2.1.1 /\ x.2.1.2 = x.2.1.2 /\ J (y.1, ()) ((), (),
  ())) /\ True) /\ (decide (x.2.1.1 = q69) = false -> Value.bool false = Value.bool false /\ Value.bool false = Value.bool false /\ x.1 = x.1 /\ x.2.1 = x.2.1 /\ x.1.1 = x.1.1 /\ x.1.2 =
  x.1.2 /\ x.2.1.1 = x.2.1.1 /\ x.2.1.2 = x.2.1.2 /\ J (x.2.1.2, ()) ((), (), ()))) /\ ∀ (u : q6) (z : q15), (q64 u) -> True /\ True /\ True -> J u z -> ((True /\ (∀ (y : Nat × Unit), (Kd.wf
  Kd.fn y.1 /\ True) -> y.1 = asksN x.1.1 -> (((y.1 = (63 : Nat) \/ y.1 = (64 : Nat) \/ y.1 = (65 : Nat) \/ y.1 = (66 : Nat) \/ False) /\ (y.1 = (63 : Nat) -> (List.length x.1.2 <= q260 /\
  List.length u.1 <= q260) /\ (∀ (y : q4), (wbZ y.1 /\ True) -> y.1 = mailT x.1.2 u.1 -> y.1 = allT x.1 x.2.1) /\ True) /\ (y.1 = (64 : Nat) -> (List.length x.1.2 <= q260 /\ List.length u.1
  <= q260) /\ (∀ (y : q4), (wbZ y.1 /\ True) -> y.1 = belowD u.1 x.1.2 -> y.1 = allT x.1 x.2.1) /\ True) /\ (y.1 = (65 : Nat) -> (List.length x.1.2 <= q260 /\ List.length u.1 <= q260 /\
  namedD x.1.2 = true /\ namedD u.1 = true) /\ (∀ (y : q4), (wbZ y.1 /\ True) -> y.1 = beginsD (guessD u.1) (guessD x.1.2) -> y.1 = allT x.1 x.2.1) /\ True) /\ (y.1 = (66 : Nat) ->
  (List.length x.1.2 <= q260 /\ List.length u.1 <= q260 /\ maskD x.1.2 = true) /\ (∀ (y : q4), (wbZ y.1 /\ True) -> y.1 = ipT x.1.2 u.1 -> y.1 = allT x.1 x.2.1) /\ True) /\ True) /\ True) /\
  True) /\ True) /\ (q209 x u) /\ True) /\ ((q209 x u) /\ True) /\ True)) /\ True) /\ ((!y.1) = !false -> false = allT x.1 x.2.1)) /\ True) /\ (decide (x.1.1 ≠ x.2.1.1) = !false -> false =
  allT x.1 x.2.1)
theorem e13 : t13 = Con.vc c_within_All GL (mkEnvO ty [(11, conSem c_within_May), (18, conSem c_host_May), (33, conSem c_strings_TrimPrefix), (38, conSem c_within_asks), (62, conSem c_within_tree_email), (63, conSem c_within_tree_dns), (64, conSem c_within_tree_name), (65, conSem c_within_tree_ip)] [] [] [0, 1, 2, 3, 4, 5, 20, 25] [2000062,2000063,2000064,2000065,1000000]) {joins := [6]} Tryz.f13.ntmps Tryz.f13.results.toList (bodyOf Tryz.f13) := by kernel_rfl
theorem k13 : t13 := by
  unfold t13
  delta q93 q106 q87 q107 q65 q4 q44 q69 q6 q64 q172 q15 q260 wbZ q209 q304 wsZ
  rintro ⟨⟨k, b⟩, ⟨g, s⟩, _⟩ hx hp
  obtain ⟨hb, hs⟩ := hp
  simp only at hb hs
  clear hx
  try dsimp +instances only [dft_int, dft_sl, dft_str]
  simp only [true_and, and_true, eq_self_iff_true, implies_true, reduceCtorEq, false_implies, true_implies, decide_eq_true_eq, decide_eq_false_iff_not, beq_self_eq_true, Bool.not_eq_true', ne_eq, Decidable.not_not, List.nil_append, List.length_singleton, List.length_cons, List.length_nil, Nat.zero_add, Nat.add_zero, Nat.mul_one, and_self, beq_iff_eq, Bool.not_true, Bool.not_false, Bool.not_eq_false', Bool.cond_false_right, Bool.and_eq_true, imp_self, Bool.not_eq_true, Bool.cond_true_left, Bool.or_eq_true]
  have b42 : bs { data := #[42, 46] } = [42, 46] := rfl
  rw [b42]
  refine ⟨by decide, by decide, fun hk => ⟨hk, hb, ?_⟩, fun hk => by simp [allT, hk]⟩
  rintro ⟨m, _⟩ _ em
  simp only at em ⊢
  refine ⟨fun hm => ⟨hm, hs, ?_⟩, fun hm => by rw [allT, ← em, hm]; simp⟩
  rintro ⟨h, _⟩ _ eh
  simp only at eh ⊢
  refine ⟨fun hh => by rw [allT, ← eh, hh]; simp, fun hh => ?_⟩
  refine ⟨fun u _ => u.1 = (if g = 2 then bareT s else s), ⟨fun h2 => ?_, fun h2 => by rw [if_neg h2]⟩, ?_⟩
  . rintro ⟨y, _⟩ _ ey
    simp only at ey
    show y = _
    rw [if_pos h2, ey, bareT]; rfl
  rintro ⟨u, _⟩ z _ hu ⟨f, _⟩ _ ef
  simp only at hu ef ⊢
  have hmk : mayT k b = true := by rw [← em]; exact hm
  have hgk : mayG g s = true := by rw [← eh]; exact hh
  have hA : allT (k, b) (g, s) = liesT k b u := by
    unfold allT
    simp only
    rw [decide_eq_true hk, hmk, hgk, hu]; rfl
  rw [hA]
  have hul : u.length ≤ 100000000 := by
    rw [hu]
    split
    . rw [bareT]; split
      . rw [List.length_drop]; omega
      . exact hs
    . exact hs
  subst hk
  rcases may_kinds hgk with ⟨rfl, he⟩ | ⟨rfl, he⟩ | ⟨rfl, he⟩ | ⟨rfl, he⟩
  . obtain rfl : f = 62 + 1 := ef
    refine ⟨by simp, fun _ => ⟨⟨hb, hul⟩, ?_⟩, fun h => absurd h (by decide), fun h => absurd h (by decide), fun h => absurd h (by decide)⟩
    rintro ⟨y, _⟩ _ ey
    exact ey
  . obtain rfl : f = 63 + 1 := ef
    refine ⟨by simp, fun h => absurd h (by decide), fun _ => ⟨⟨hb, hul⟩, ?_⟩, fun h => absurd h (by decide), fun h => absurd h (by decide)⟩
    rintro ⟨y, _⟩ _ ey
    exact ey
  . obtain rfl : f = 64 + 1 := ef
    have hus : u = s := by rw [hu, if_neg (by decide)]
    refine ⟨by simp, fun h => absurd h (by decide), fun h => absurd h (by decide), fun _ => ⟨⟨hb, hul, hmk, by rw [hus]; exact he⟩, ?_⟩, fun h => absurd h (by decide)⟩
    rintro ⟨y, _⟩ _ ey
    exact ey
  . obtain rfl : f = 65 + 1 := ef
    refine ⟨by simp, fun h => absurd h (by decide), fun h => absurd h (by decide), fun h => absurd h (by decide), fun _ => ⟨⟨hb, hul, hmk⟩, ?_⟩⟩
    rintro ⟨y, _⟩ _ ey
    exact ey
theorem h13 : c_within_All.ok Tryz.prog GL 13 := conO_ok (H := {joins := [6]}) (mkEnvO_ok (gl := GL) (l := [(11, conSem c_within_May), (18, conSem c_host_May), (33, conSem c_strings_TrimPrefix), (38, conSem c_within_asks), (62, conSem c_within_tree_email), (63, conSem c_within_tree_dns), (64, conSem c_within_tree_name), (65, conSem c_within_tree_ip)]) (q := []) (d := []) _ [2000062,2000063,2000064,2000065,1000000] tyOk (by kernel_rfl) ⟨h11.call, h18.call, h33.call, h38.call, h62.call, h63.call, h64.call, h65.call, trivial⟩ trivial trivial) (by kernel_rfl) (by kernel_rfl) (Eq.mp e13 k13)
def t15 : Prop :=
  ∀ (x : q93 × q93 × Unit), (Kd.wf q106 x.1 /\ Kd.wf q106 x.2.1 /\ True) -> List.length x.1.2 <= q87 /\ List.length x.2.1.2 <= q87 -> List.length [SV.dat q107 x.1.1, SV.dat Kd.str x.1.2] <=
  q65 /\ List.length [SV.dat q107 x.2.1.1, SV.dat Kd.str x.2.1.2] <= q65 /\ (List.length x.1.2 <= q87 /\ List.length x.2.1.2 <= q87) /\ (∀ (y : q4), (q44 y) -> y.1 = allT (x.1.1, x.1.2)
  (x.2.1.1, x.2.1.2) -> (y.1 = true -> true = someT x.1 x.2.1) /\ (y.1 = false -> (decide (x.1.1 ≠ x.2.1.1) = false -> True) /\ (decide (x.1.1 ≠ x.2.1.1) = false -> (decide (x.1.1 ≠ x.2.1.1)
  == false) = true /\ List.length x.1.2 <= q87 /\ (∀ (y : q4), (q44 y) -> y.1 = mayT x.1.1 x.1.2 -> ((!y.1) = false -> True) /\ ((!y.1) = false -> ((!y.1) == false) = true /\ List.length
  x.2.1.2 <= q87 /\ (∀ (y : q4), (q44 y) -> y.1 = mayG x.2.1.1 x.2.1.2 -> ((!y.1) = false -> True) /\ ((!y.1) = false -> ((!y.1) == false) = true /\ True) /\ ((!y.1) = false -> ((!y.1) ==
  false) = true /\ True) /\ ((!y.1) = false -> ((!y.1) == false) = true) /\ ((bif !y.1 then true else decide (x.2.1.1 ≠ q69)) = true -> false = someT x.1 x.2.1) /\ ((bif !y.1 then true else
  decide (x.2.1.1 ≠ q69)) = false -> (List.length x.2.1.2 <= q92 /\ List.length x.1.2 <= q92) /\ (∀ (y : q4), (q44 y) -> y.1 = matchD x.2.1.2 x.1.2 -> y.1 = someT x.1 x.2.1) /\ True)) /\
  True) /\ ((!y.1) = !false -> false = someT x.1 x.2.1)) /\ True) /\ (decide (x.1.1 ≠ x.2.1.1) = !false -> false = someT x.1 x.2.1))) /\ True
theorem e15 : t15 = Con.vc c_within_Some GL (mkEnvO ty [(13, conSem c_within_All), (11, conSem c_within_May), (18, conSem c_host_May), (19, conSem c_host_Match)] [] [] [0, 1, 2, 3, 4, 7, 27] [1000000]) {} Tryz.f15.ntmps Tryz.f15.results.toList (bodyOf Tryz.f15) := by kernel_rfl
theorem k15 : t15 := by
  unfold t15
  delta q93 q106 q87 q107 q65 q4 q44 q69 q92 q304 wbZ
  rintro ⟨⟨k, b⟩, ⟨g, s⟩, _⟩ hx hp
  obtain ⟨hb, hs⟩ := hp
  simp only at hb hs
  clear hx
  try dsimp +instances only [dft_int, dft_sl, dft_str]
  simp only [true_and, and_true, eq_self_iff_true, implies_true, reduceCtorEq, false_implies, true_implies, decide_eq_true_eq, decide_eq_false_iff_not, beq_self_eq_true, Bool.not_eq_true', ne_eq, Decidable.not_not, List.nil_append, List.length_singleton, List.length_cons, List.length_nil, Nat.zero_add, Nat.add_zero, Nat.mul_one, and_self, beq_iff_eq, Bool.not_true, Bool.not_false, Bool.not_eq_false', Bool.cond_false_right, Bool.and_eq_true, imp_self, Bool.not_eq_true, Bool.cond_true_left, Bool.or_eq_true]
  refine ⟨by decide, by decide, ⟨hb, hs⟩, ?_⟩
  rintro ⟨a, _⟩ _ ea
  simp only at ea ⊢
  refine ⟨fun h => (all_some (by rw [← ea]; exact h)).symm, fun h => ⟨fun hk => ⟨hk, hb, ?_⟩, fun hk => by rw [someT, ← ea, h]; simp [hk]⟩⟩
  rintro ⟨m, _⟩ _ em
  simp only at em ⊢
  refine ⟨fun hm => ⟨hm, hs, ?_⟩, fun hm => by rw [someT, ← ea, h, ← em, hm]; simp⟩
  rintro ⟨q, _⟩ _ eq
  simp only at eq ⊢
  refine ⟨fun hh => ?_, fun hh => ⟨⟨by omega, by omega⟩, ?_⟩⟩
  . rw [someT, ← ea, h]
    simp only
    rw [← em, ← eq]
    rcases hh with hh | hh
    . rw [hh]; simp
    . simp [hh]
  . rintro ⟨w, _⟩ _ ew
    simp only at ew ⊢
    have hq : q = true ∧ g = 2 := by cases q <;> simp at hh ⊢; exact hh
    rw [someT, ← ea, h]
    simp only
    rw [← em, hm, ← eq, hq.1, decide_eq_true hk, decide_eq_true hq.2, ew]
    rfl
theorem h15 : c_within_Some.ok Tryz.prog GL 15 := conO_ok (H := {}) (mkEnvO_ok (gl := GL) (l := [(13, conSem c_within_All), (11, conSem c_within_May), (18, conSem c_host_May), (19, conSem c_host_Match)]) (q := []) (d := []) _ [1000000] tyOk (by kernel_rfl) ⟨h13.call, h11.call, h18.call, h19.call, trivial⟩ trivial trivial) (by kernel_rfl) (by kernel_rfl) (Eq.mp e15 k15)
end Go.Proofs.YtgnlcpoeepfdoaaGreatDoor
end
section
namespace Go.Proofs.YtgnlcpoeepfdoaaGreatDoor
open Go Go.Vc Go.Pl Go.Proofs
end Go.Proofs.YtgnlcpoeepfdoaaGreatDoor
end
section
namespace Go.Proofs.YtgnlcpoeepfdoaaGreatDoor
open Go Go.Vc Go.Pl Go.Proofs
set_option linter.unusedVariables false
set_option linter.unusedSimpArgs false
end Go.Proofs.YtgnlcpoeepfdoaaGreatDoor
end
section
namespace Go.Proofs.YtgnlcpoeepfdoaaGreatDoor
open Go Go.Vc Go.Pl Go.Proofs
def c_law14_there : Con := { args := [], res := [.dat .bool], pre := fun _ => True, post := fun _ y => y.1 = true }
end Go.Proofs.YtgnlcpoeepfdoaaGreatDoor
end
section
namespace Go.Proofs.YtgnlcpoeepfdoaaGreatDoor
open Go Go.Vc Go.Pl Go.Proofs
set_option linter.unusedVariables false
set_option linter.unusedSimpArgs false
theorem there1 : belowD (bs { data := #[120, 46, 97, 46, 98] }) (bs { data := #[97, 46, 98] }) = true := by decide +kernel
theorem there2 : belowD (bs { data := #[120, 97, 46, 98] }) (bs { data := #[97, 46, 98] }) = false := by decide +kernel
def t20 : Prop :=
  ∀ (x : Unit), True -> True -> ((5 : Nat) <= q92 /\ (3 : Nat) <= q92) /\ (∀ (y : q4), (q44 y) -> y.1 = belowD (bs { data := #[(120 : UInt8), (46 : UInt8), (97 : UInt8), (46 : UInt8), (98 :
  UInt8)] }) (bs { data := #[(97 : UInt8), (46 : UInt8), (98 : UInt8)] }) -> (y.1 = true -> ((4 : Nat) <= q92 /\ (3 : Nat) <= q92) /\ (∀ (y : q4), (q44 y) -> y.1 = belowD (bs { data := #[(120
  : UInt8), (97 : UInt8), (46 : UInt8), (98 : UInt8)] }) (bs { data := #[(97 : UInt8), (46 : UInt8), (98 : UInt8)] }) -> (!y.1) = true) /\ True) /\ (y.1 = !true -> false = true)) /\ True
theorem e20 : t20 = Con.vc c_law14_there GL (mkEnv ty [(8, conSem c_within_Below)] [] [] [0]) {} Tryz.f20.ntmps Tryz.f20.results.toList (bodyOf Tryz.f20) := by kernel_rfl
theorem k20 : t20 := by
  unfold t20
  delta q92 q4 q44 wbZ
  rintro _ hx hp
  try dsimp +instances only [dft_int, dft_sl, dft_str]
  simp only [true_and, and_true, eq_self_iff_true, implies_true, reduceCtorEq, false_implies, true_implies, decide_eq_true_eq, decide_eq_false_iff_not, beq_self_eq_true, Bool.not_eq_true', ne_eq, Decidable.not_not, List.nil_append, List.length_singleton, List.length_cons, List.length_nil, Nat.zero_add, Nat.add_zero, Nat.mul_one, and_self, beq_iff_eq, Bool.not_true, Bool.not_false, Bool.not_eq_false', Bool.cond_false_right, Bool.and_eq_true, imp_self, Bool.not_eq_true, Bool.cond_true_left, Bool.or_eq_true]
  refine ⟨⟨by decide, by decide⟩, ?_⟩
  rintro ⟨y, _⟩ _ ey
  simp only at ey ⊢
  rw [there1] at ey
  refine ⟨fun _ => ⟨⟨by decide, by decide⟩, ?_⟩, fun h => by rw [ey] at h; cases h⟩
  rintro ⟨z, _⟩ _ ez
  rw [there2] at ez
  exact ez
theorem h20 : c_law14_there.ok Tryz.prog GL 20 := con_ok (H := {}) (mkEnv_ok (gl := GL) (l := [(8, conSem c_within_Below)]) (q := []) (d := []) _ tyOk (by kernel_rfl) ⟨h8.call, trivial⟩ trivial trivial) (by kernel_rfl) (by kernel_rfl) (Eq.mp e20 k20)
end Go.Proofs.YtgnlcpoeepfdoaaGreatDoor
end
section
namespace Go.Proofs.YtgnlcpoeepfdoaaGreatDoor
open Go Go.Vc Go.Pl Go.Proofs
end Go.Proofs.YtgnlcpoeepfdoaaGreatDoor
end
section
namespace Go.Proofs.YtgnlcpoeepfdoaaGreatDoor
open Go Go.Vc Go.Pl Go.Proofs
set_option linter.unusedVariables false
set_option linter.unusedSimpArgs false
set_option maxRecDepth 20000
end Go.Proofs.YtgnlcpoeepfdoaaGreatDoor
end
section
namespace Go.Proofs.YtgnlcpoeepfdoaaGreatDoor
open Go Go.Vc Go.Pl Go.Proofs
end Go.Proofs.YtgnlcpoeepfdoaaGreatDoor
end
section
namespace Go.Proofs.YtgnlcpoeepfdoaaGreatDoor
open Go Go.Vc Go.Pl Go.Proofs
set_option linter.unusedVariables false
set_option linter.unusedSimpArgs false
set_option maxRecDepth 20000
end Go.Proofs.YtgnlcpoeepfdoaaGreatDoor
end
section
namespace Go.Proofs.YtgnlcpoeepfdoaaGreatDoor
open Go Go.Vc Go.Pl Go.Proofs
end Go.Proofs.YtgnlcpoeepfdoaaGreatDoor
end
section
namespace Go.Proofs.YtgnlcpoeepfdoaaGreatDoor
open Go Go.Vc Go.Pl Go.Proofs
set_option linter.unusedVariables false
set_option linter.unusedSimpArgs false
end Go.Proofs.YtgnlcpoeepfdoaaGreatDoor
end
section
namespace Go.Proofs.YtgnlcpoeepfdoaaGreatDoor
open Go Go.Vc Go.Pl Go.Proofs
end Go.Proofs.YtgnlcpoeepfdoaaGreatDoor
end
section
namespace Go.Proofs.YtgnlcpoeepfdoaaGreatDoor
open Go Go.Vc Go.Pl Go.Proofs
set_option linter.unusedVariables false
set_option linter.unusedSimpArgs false
end Go.Proofs.YtgnlcpoeepfdoaaGreatDoor
end
