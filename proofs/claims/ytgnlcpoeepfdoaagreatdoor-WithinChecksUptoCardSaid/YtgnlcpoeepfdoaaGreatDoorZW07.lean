/- Texts of a verified walk, led together: HostA, HostW, HostmA, HostmW. -/
import Derived.Test.YtgnlcpoeepfdoaaGreatDoorZW06
import Derived.Test.YtgnlcpoeepfdoaaGreatDoorZV12
set_option linter.unusedVariables false
set_option linter.unusedSimpArgs false
section
namespace Go.Proofs.YtgnlcpoeepfdoaaGreatDoor
open Go Go.Vc Go.Pl Go.Proofs
def c_host_letter : Con := { args := [.dat U8], res := [.dat .bool], pre := fun _ => True, post := fun x y => y.1 = letterD x.1 }
def c_r13_letter : Con := { args := [.dat U8], res := [.dat .bool], pre := fun _ => True, post := fun x y => y.1 = letterD x.1 }
def c_host_digit : Con := { args := [.dat U8], res := [.dat .bool], pre := fun _ => True, post := fun x y => y.1 = digitD x.1 }
def c_r13_digit : Con := { args := [.dat U8], res := [.dat .bool], pre := fun _ => True, post := fun x y => y.1 = digitD x.1 }
def c_host_label_1 : Con := { args := [.dat U8], res := [.dat .bool], pre := fun _ => True, post := fun x y => y.1 = lcharD x.1 }
def c_host_local_1 : Con := { args := [.dat U8], res := [.dat .bool], pre := fun _ => True, post := fun x y => y.1 = mcharD x.1 }
def c_host_label : Con := { args := [.dat .str], res := [.dat .bool], pre := fun x => x.1.length ≤ 1000000000, post := fun x y => y.1 = labelD x.1 }
def c_r13_isLabel : Con := { args := [.dat .str], res := [.dat .bool], pre := fun x => x.1.length ≤ 1000000000, post := fun x y => y.1 = labelD x.1 }
def c_host_local : Con := { args := [.dat .str], res := [.dat .bool], pre := fun x => x.1.length ≤ 1000000000, post := fun x y => y.1 = localD x.1 }
def c_host_DNS : Con := { args := [.dat .str], res := [.dat .bool], pre := fun x => x.1.length ≤ 1000000000, post := fun x y => y.1 = dnsD x.1 }
def c_r13_DNS : Con := { args := [.dat .str], res := [.dat .bool], pre := fun x => x.1.length ≤ 1000000000, post := fun x y => y.1 = dnsD x.1 }
def c_host_Wild : Con := { args := [.dat .str], res := [.dat .bool], pre := fun x => x.1.length ≤ 1000000000, post := fun x y => y.1 = wildD x.1 }
def c_r13_Wild : Con := { args := [.dat .str], res := [.dat .bool], pre := fun x => x.1.length ≤ 1000000000, post := fun x y => y.1 = wildD x.1 }
def c_host_Email : Con := { args := [.dat .str], res := [.dat .bool], pre := fun x => x.1.length ≤ 1000000000, post := fun x y => y.1 = emailD x.1 }
def c_r13_Email : Con := { args := [.dat .str], res := [.dat .bool], pre := fun x => x.1.length ≤ 1000000000, post := fun x y => y.1 = emailD x.1 }
def c_host_IP : Con := { args := [.dat .str], res := [.dat .bool], pre := fun _ => True, post := fun x y => y.1 = ipD x.1 }
def c_r13_IP : Con := { args := [.dat .str], res := [.dat .bool], pre := fun _ => True, post := fun x y => y.1 = ipD x.1 }
def c_r13_Labels : Con := { args := [.dat .str], res := [.own 9 .str], pre := fun x => x.1.length ≤ 1000000000, post := fun x y => y.1 = labelsD x.1 }
end Go.Proofs.YtgnlcpoeepfdoaaGreatDoor
end
section
namespace Go.Proofs.YtgnlcpoeepfdoaaGreatDoor
open Go Go.Vc Go.Pl Go.Proofs
set_option linter.unusedVariables false
set_option linter.unusedSimpArgs false
abbrev q33 := ((Bool × Unit) × (List Int × Unit) × (List Int × Unit) × Unit)
abbrev q295 (p0 : q4) := (p0.1 = false -> (p0.1 == false) = true /\ True)
abbrev q532 (p0 : q6) := (bif bif decide (p0.1 = bs { data := #[] }) then true else decide ((63 : Int) < (lnZ p0.1)) then true else decide (List.getD p0.1 q565 q557 = (45 : Int)))
abbrev q296 (p0 : q6) := ((q532 p0) = false -> ((q532 p0) == false) = true /\ True)
abbrev q297 (p0 : q6) := (bif bif bif decide (q509 p0) then true else decide ((63 : Int) < (lnZ p0.1)) then true else decide (List.getD p0.1 q565 q557 = (45 : Int)) then true else decide
  (List.getD p0.1 (Int.toNat (wrZ ((lnZ p0.1) - q491))) q452 = (45 : Int)))
abbrev q298 (p0 : q4) (p1 : q6) (p2 : q8) (p3 : q10) (p4 : q9) (p5 : Unit) := ((!p0.1) = false -> (lnZ p1.1) = (lnZ p1.1) /\ p1.1 = p1.1 /\ p1.1 = p1.1 /\ Value.bool false = Value.bool
  false /\ Value.bool false = Value.bool false /\ p1.1 = p1.1 /\ p2 (wrZ (p3.1 + q491), p3.2.1, ()) () /\ p4 (wrZ (p3.1 + q491), p3.2.1, ()) () < p4 p3 p5)
abbrev q299 (p0 : q6) := ((q532 p0) = false -> True)
abbrev q300 (p0 : q6) := ((q532 p0) == false)
abbrev q301 (p0 : q6) (p1 : q8) := ((lnZ p0.1) = (lnZ p0.1) /\ p0.1 = p0.1 /\ p0.1 = p0.1 /\ Value.bool false = Value.bool false /\ Value.bool false = Value.bool false /\ p0.1 = p0.1 /\ p1
  (q452, false, ()) ())
abbrev q302 (p0 : q6) := (bif bif decide (q509 p0) then true else decide ((63 : Int) < (lnZ p0.1)) then true else decide (List.getD p0.1 q565 q557 = (45 : Int)))
abbrev q303 (p0 : q6) := ((bif decide (q509 p0) then true else decide ((63 : Int) < (lnZ p0.1))) == false)
abbrev q304 (p0 : q6) := (bif decide (q509 p0) then true else decide ((63 : Int) < (lnZ p0.1)))
abbrev q305 (p0 : q6) (p1 : q10) := (List.getD p0.1 (q507 p1) q452)
abbrev q568 (p0 : q6) (p1 : q10) := (List.getD p0.1 (Int.toNat p1.1) (0 : Int) ≠ (45 : Int))
abbrev q533 (p0 : q6) (p1 : q10) := (bif decide (q568 p0 p1) then true else decide (p1.1 = q557))
abbrev q306 (p0 : q4) (p1 : q6) (p2 : q10) := (((!p0.1) == true && (!p0.1) == true) = true -> (q533 p1 p2) = false -> ((!p0.1) == true && (!p0.1) == true && (q533 p1 p2) == false) = true /\
  True)
abbrev q307 (p0 : q4) (p1 : q6) (p2 : q10) := (bif !p0.1 then bif bif decide (q568 p1 p2) then true else decide (p2.1 = q452) then true else decide (p2.1 = wrZ ((lnZ p1.1) - q491)) else
  false)
abbrev q308 (p0 : q4) (p1 : q6) (p2 : q10) := (((!p0.1) == true && (!p0.1) == true) = true -> (q533 p1 p2) = false -> True)
abbrev q309 (p0 : q4) (p1 : q6) (p2 : q10) := ((!p0.1) == true && (!p0.1) == true && (q533 p1 p2) == false)
abbrev q310 (p0 : q6) (p1 : q10) := (bif decide (q568 p0 p1) then true else decide (p1.1 = q452))
abbrev q311 (p0 : q6) (p1 : q10) := (List.getD p0.1 (q507 p1) q452 ≠ (45 : Int))
abbrev q312 (p0 : q4) := ((!p0.1) == true && (!p0.1) == true)
abbrev q534 (p0 : q6) := (bif bif decide (p0.1 = bs { data := #[] }) then true else decide ((64 : Int) < (lnZ p0.1)) then true else decide (List.getD p0.1 q565 q557 = (46 : Int)))
abbrev q313 (p0 : q6) := ((q534 p0) = false -> ((q534 p0) == false) = true /\ True)
abbrev q535 (p0 : q6) := (List.getD p0.1 q565 q557 = (46 : Int))
abbrev q314 (p0 : q6) := (bif bif bif decide (q509 p0) then true else decide (q455 < (lnZ p0.1)) then true else decide (q535 p0) then true else decide (List.getD p0.1 (Int.toNat (wrZ ((lnZ
  p0.1) - q491))) q452 = (46 : Int)))
abbrev q315 (p0 : q6) := ((q534 p0) = false -> True)
abbrev q316 (p0 : q6) := ((q534 p0) == false)
abbrev q317 (p0 : q6) := (bif bif decide (q509 p0) then true else decide (q455 < (lnZ p0.1)) then true else decide (q535 p0))
abbrev q318 (p0 : q6) := ((bif decide (q509 p0) then true else decide (q455 < (lnZ p0.1))) == false)
abbrev q319 (p0 : q6) := (bif decide (q509 p0) then true else decide (q455 < (lnZ p0.1)))
abbrev q320 (p0 : Bool × List Int × List Int × Unit) := (cutD (List.getD (bs { data := #[(46 : UInt8)] }) q477 q452) p0.2.1)
abbrev q321 (p0 : q6) := (cutD (List.getD (bs { data := #[(46 : UInt8)] }) q477 q452) p0.1)
abbrev q322 := (bs { data := #[(46 : UInt8)] })
abbrev q323 (p0 : q14) := (lnZ (List.getD p0.1 (Int.toNat (wrZ ((lnZ p0.1) - q491))) (Kd.dft Kd.str)))
abbrev q324 (p0 : q14) := (Int.toNat (wrZ ((lnZ p0.1) - q491)))
abbrev q325 (p0 : q5) (p1 : q6) := (bif p0.2.1 then decide ((lnZ p1.1) <= (253 : Int)) else false)
abbrev q326 := (bs { data := #[(42 : UInt8), (46 : UInt8)] })
abbrev q327 (p0 : q6) := (bif bif decide (q479 p0) then decide ((lnZ p0.1) <= (253 : Int)) else false then decide (List.take (2 : Nat) p0.1 = bs { data := #[(42 : UInt8), (46 : UInt8)] })
  else false)
abbrev q328 (p0 : q6) := ((bif decide (q479 p0) then decide ((lnZ p0.1) <= (253 : Int)) else false) == true)
abbrev q329 (p0 : q6) := (bif decide (q479 p0) then decide ((lnZ p0.1) <= (253 : Int)) else false)
abbrev q536 := (List.getD (bs { data := #[(64 : UInt8)] }) q565 q557)
abbrev q330 (p0 : q6) := (cutD q536 p0.1)
abbrev q537 (p0 : q1) (p1 : q6) := (bif bif bif decide (p0.1 = (lnZ p1.1)) then true else decide (p0.1 < (1 : Int)) then true else decide ((64 : Int) < p0.1) then true else decide
  (List.getD p1.1 q565 q557 = (46 : Int)))
abbrev q331 (p0 : q1) (p1 : q6) := ((q537 p0 p1) = false -> ((q537 p0 p1) == false) = true /\ True)
abbrev q538 (p0 : q6) (p1 : q10) := (List.getD p0.1 (Int.toNat p1.1) q557 ≠ (46 : Int))
abbrev q539 (p0 : q6) (p1 : q10) := (List.getD p0.1 (Int.toNat p1.1) q557 ≠ (95 : Int))
abbrev q332 (p0 : q4) (p1 : q6) (p2 : q10) := (bif bif bif bif !p0.1 then decide (q538 p1 p2) else false then decide (q539 p1 p2) else false then decide (List.getD p1.1 (q507 p2) q452 ≠ (43
  : Int)) else false then decide (q568 p1 p2) else false)
abbrev q333 (p0 : q1) (p1 : q6) := (bif bif bif bif decide (p0.1 = (lnZ p1.1)) then true else decide (p0.1 < q491) then true else decide (q455 < p0.1) then true else decide (q535 p1) then
  true else decide (List.getD p1.1 (Int.toNat (wrZ (p0.1 - q491))) q452 = (46 : Int)))
abbrev q334 (p0 : q4) (p1 : q6) (p2 : q10) := ((bif bif bif !p0.1 then decide (q538 p1 p2) else false then decide (q539 p1 p2) else false then decide (List.getD p1.1 (q507 p2) q452 ≠ (43 :
  Int)) else false) == true)
abbrev q335 (p0 : q4) (p1 : q6) (p2 : q10) := (bif bif bif !p0.1 then decide (q538 p1 p2) else false then decide (q539 p1 p2) else false then decide (List.getD p1.1 (q507 p2) q452 ≠ (43 :
  Int)) else false)
abbrev q336 (p0 : q1) (p1 : q6) := ((q537 p0 p1) = false -> True)
abbrev q337 (p0 : q1) (p1 : q6) := ((q537 p0 p1) == false)
abbrev q338 (p0 : q1) (p1 : q6) := (bif bif bif decide (p0.1 = (lnZ p1.1)) then true else decide (p0.1 < q491) then true else decide (q455 < p0.1) then true else decide (q535 p1))
abbrev q339 (p0 : q4) (p1 : q6) (p2 : q10) := ((bif bif !p0.1 then decide (q538 p1 p2) else false then decide (q539 p1 p2) else false) == true)
abbrev q340 (p0 : q4) (p1 : q6) (p2 : q10) := (bif bif !p0.1 then decide (q538 p1 p2) else false then decide (q539 p1 p2) else false)
abbrev q540 (p0 : q6) (p1 : q10) := (List.getD p0.1 (Int.toNat p1.1) q557 = (46 : Int))
abbrev q341 (p0 : q6) (p1 : q10) := (bif decide (q540 p0 p1) then decide (List.getD p0.1 (Int.toNat (wrZ (p1.1 + q491))) q452 = (46 : Int)) else false)
abbrev q342 (p0 : q6) (p1 : q10) := (decide (q540 p0 p1) = true -> (decide (q540 p0 p1) == true) = true /\ True)
abbrev q343 (p0 : q1) (p1 : q6) := ((bif bif decide (p0.1 = (lnZ p1.1)) then true else decide (p0.1 < q491) then true else decide (q455 < p0.1)) == false)
abbrev q344 (p0 : q1) (p1 : q6) := (bif bif decide (p0.1 = (lnZ p1.1)) then true else decide (p0.1 < q491) then true else decide (q455 < p0.1))
abbrev q345 (p0 : q4) (p1 : q6) (p2 : q10) := (bif !p0.1 then decide (q538 p1 p2) else false)
abbrev q346 (p0 : q6) (p1 : q10) := (decide (q540 p0 p1) == true)
abbrev q347 (p0 : q1) (p1 : q6) := (bif decide (p0.1 = (lnZ p1.1)) then true else decide (p0.1 < q491))
abbrev q348 (p0 : q6) (p1 : q10) := (List.getD p0.1 (q507 p1) q452 = (46 : Int))
abbrev q492 (p0 : q6) := ((lnZ p0.1) = (4 : Int))
abbrev q349 (p0 : q6) := (decide (q492 p0) = false -> (decide (q492 p0) == false) = true /\ True)
def t78 : Prop :=
  ∀ (x : q1), (q121 x) -> True -> (decide ((97 : Int) <= x.1) = true -> True) /\ (q122 x) /\ (q124 x) /\ (q139 x) /\ (q134 x) /\ (q139 x) /\ (q133 x) /\ (q128 x) /\ (q127 x) /\ (q136 x) /\
  (q138 x) = letterD x.1
theorem e78 : t78 = Con.vc c_host_letter GL (mkEnv ty [] [] [] [0, 2]) {} Tryz.f78.ntmps Tryz.f78.results.toList (bodyOf Tryz.f78) := by kernel_rfl
theorem k78 : t78 := by
  unfold t78
  delta q1 q121 q122 q124 q139 q134 q133 q128 q127 q136 q138 q553 q458 q505 q456 q504 q575 q555
  rintro ⟨l, _⟩ hx hp
  try dsimp +instances only [dft_int, dft_sl, dft_str]
  simp only [true_and, and_true, eq_self_iff_true, implies_true, reduceCtorEq, false_implies, true_implies, decide_eq_true_eq, decide_eq_false_iff_not, beq_self_eq_true, Bool.not_eq_true', ne_eq, Decidable.not_not, List.nil_append, List.length_singleton, List.length_cons, List.length_nil, Nat.zero_add, Nat.add_zero, Nat.mul_one, and_self, beq_iff_eq, Bool.not_true, Bool.not_false, Bool.not_eq_false', Bool.cond_false_right, Bool.and_eq_true, imp_self, Bool.not_eq_true, Bool.cond_true_left, Bool.or_eq_true]
  refine ⟨fun h h2 => ⟨h, h2⟩, fun h => ⟨h, fun h2 => ⟨h, h2⟩⟩, ?_⟩
  rw [Bool.eq_iff_iff, letterD]
  simp only [Bool.or_eq_true, Bool.and_eq_true, decide_eq_true_eq]
theorem h78 : c_host_letter.ok Tryz.prog GL 78 := con_ok (H := {}) (mkEnv_ok (gl := GL) (l := []) (q := []) (d := []) _ tyOk (by kernel_rfl) trivial trivial trivial) (by kernel_rfl) (by kernel_rfl) (Eq.mp e78 k78)
def t58 : Prop :=
  ∀ (x : q1), (q121 x) -> True -> (decide ((97 : Int) <= x.1) = true -> True) /\ (q122 x) /\ (q124 x) /\ (q139 x) /\ (q134 x) /\ (q139 x) /\ (q133 x) /\ (q128 x) /\ (q127 x) /\ (q136 x) /\
  (q138 x) = letterD x.1
theorem e58 : t58 = Con.vc c_r13_letter GL (mkEnv ty [] [] [] [0, 2]) {} Tryz.f58.ntmps Tryz.f58.results.toList (bodyOf Tryz.f58) := by kernel_rfl
theorem k58 : t58 := by
  unfold t58
  delta q1 q121 q122 q124 q139 q134 q133 q128 q127 q136 q138 q553 q458 q505 q456 q504 q575 q555
  rintro ⟨l, _⟩ hx hp
  try dsimp +instances only [dft_int, dft_sl, dft_str]
  simp only [true_and, and_true, eq_self_iff_true, implies_true, reduceCtorEq, false_implies, true_implies, decide_eq_true_eq, decide_eq_false_iff_not, beq_self_eq_true, Bool.not_eq_true', ne_eq, Decidable.not_not, List.nil_append, List.length_singleton, List.length_cons, List.length_nil, Nat.zero_add, Nat.add_zero, Nat.mul_one, and_self, beq_iff_eq, Bool.not_true, Bool.not_false, Bool.not_eq_false', Bool.cond_false_right, Bool.and_eq_true, imp_self, Bool.not_eq_true, Bool.cond_true_left, Bool.or_eq_true]
  refine ⟨fun h h2 => ⟨h, h2⟩, fun h => ⟨h, fun h2 => ⟨h, h2⟩⟩, ?_⟩
  rw [Bool.eq_iff_iff, letterD]
  simp only [Bool.or_eq_true, Bool.and_eq_true, decide_eq_true_eq]
theorem h58 : c_r13_letter.ok Tryz.prog GL 58 := con_ok (H := {}) (mkEnv_ok (gl := GL) (l := []) (q := []) (d := []) _ tyOk (by kernel_rfl) trivial trivial trivial) (by kernel_rfl) (by kernel_rfl) (Eq.mp e58 k58)
def t50 : Prop :=
  ∀ (x : q1), (q121 x) -> True -> (decide (q459 <= x.1) = true -> True) /\ (q123 x) /\ (q125 x) /\ (q126 x) = digitD x.1
theorem e50 : t50 = Con.vc c_host_digit GL (mkEnv ty [] [] [] [0, 2]) {} Tryz.f50.ntmps Tryz.f50.results.toList (bodyOf Tryz.f50) := by kernel_rfl
theorem k50 : t50 := by
  unfold t50
  delta q1 q121 q459 q123 q125 q126 q553
  rintro ⟨l, _⟩ hx hp
  try dsimp +instances only [dft_int, dft_sl, dft_str]
  simp only [true_and, and_true, eq_self_iff_true, implies_true, reduceCtorEq, false_implies, true_implies, decide_eq_true_eq, decide_eq_false_iff_not, beq_self_eq_true, Bool.not_eq_true', ne_eq, Decidable.not_not, List.nil_append, List.length_singleton, List.length_cons, List.length_nil, Nat.zero_add, Nat.add_zero, Nat.mul_one, and_self, beq_iff_eq, Bool.not_true, Bool.not_false, Bool.not_eq_false', Bool.cond_false_right, Bool.and_eq_true, imp_self, Bool.not_eq_true, Bool.cond_true_left, Bool.or_eq_true]
  rw [Bool.eq_iff_iff, digitD]
  simp only [Bool.and_eq_true, decide_eq_true_eq]
theorem h50 : c_host_digit.ok Tryz.prog GL 50 := con_ok (H := {}) (mkEnv_ok (gl := GL) (l := []) (q := []) (d := []) _ tyOk (by kernel_rfl) trivial trivial trivial) (by kernel_rfl) (by kernel_rfl) (Eq.mp e50 k50)
def t55 : Prop :=
  ∀ (x : q1), (q121 x) -> True -> (decide (q459 <= x.1) = true -> True) /\ (q123 x) /\ (q125 x) /\ (q126 x) = digitD x.1
theorem e55 : t55 = Con.vc c_r13_digit GL (mkEnv ty [] [] [] [0, 2]) {} Tryz.f55.ntmps Tryz.f55.results.toList (bodyOf Tryz.f55) := by kernel_rfl
theorem k55 : t55 := by
  unfold t55
  delta q1 q121 q459 q123 q125 q126 q553
  rintro ⟨l, _⟩ hx hp
  try dsimp +instances only [dft_int, dft_sl, dft_str]
  simp only [true_and, and_true, eq_self_iff_true, implies_true, reduceCtorEq, false_implies, true_implies, decide_eq_true_eq, decide_eq_false_iff_not, beq_self_eq_true, Bool.not_eq_true', ne_eq, Decidable.not_not, List.nil_append, List.length_singleton, List.length_cons, List.length_nil, Nat.zero_add, Nat.add_zero, Nat.mul_one, and_self, beq_iff_eq, Bool.not_true, Bool.not_false, Bool.not_eq_false', Bool.cond_false_right, Bool.and_eq_true, imp_self, Bool.not_eq_true, Bool.cond_true_left, Bool.or_eq_true]
  rw [Bool.eq_iff_iff, digitD]
  simp only [Bool.and_eq_true, decide_eq_true_eq]
theorem h55 : c_r13_digit.ok Tryz.prog GL 55 := con_ok (H := {}) (mkEnv_ok (gl := GL) (l := []) (q := []) (d := []) _ tyOk (by kernel_rfl) trivial trivial trivial) (by kernel_rfl) (by kernel_rfl) (Eq.mp e55 k55)
def t77 : Prop :=
  ∀ (x : q1), (q121 x) -> True -> True /\ (∀ (y : q4), (q67 y) -> y.1 = letterD x.1 -> (y.1 = false -> True) /\ (y.1 = false -> (y.1 == false) = true /\ True /\ (∀ (y : q4), (q67 y) -> y.1 =
  digitD x.1 -> (y.1 = false -> True) /\ (q295 y) /\ (y.1 = false -> (y.1 == false) = true) /\ (bif y.1 then true else decide (x.1 = (45 : Int))) = lcharD x.1) /\ True) /\ (y.1 = !false ->
  true = lcharD x.1)) /\ True
theorem e77 : t77 = Con.vc c_host_label_1 GL (mkEnv ty [(78, conSem c_host_letter), (50, conSem c_host_digit)] [] [] [0, 2]) {} Tryz.f77.ntmps Tryz.f77.results.toList (bodyOf Tryz.f77) := by kernel_rfl
theorem k77 : t77 := by
  unfold t77
  delta q1 q121 q4 q67 q295 q553 wbZ
  rintro ⟨l, _⟩ hx hp
  try dsimp +instances only [dft_int, dft_sl, dft_str]
  simp only [true_and, and_true, eq_self_iff_true, implies_true, reduceCtorEq, false_implies, true_implies, decide_eq_true_eq, decide_eq_false_iff_not, beq_self_eq_true, Bool.not_eq_true', ne_eq, Decidable.not_not, List.nil_append, List.length_singleton, List.length_cons, List.length_nil, Nat.zero_add, Nat.add_zero, Nat.mul_one, and_self, beq_iff_eq, Bool.not_true, Bool.not_false, Bool.not_eq_false', Bool.cond_false_right, Bool.and_eq_true, imp_self, Bool.not_eq_true, Bool.cond_true_left, Bool.or_eq_true]
  rintro ⟨a, _⟩ _ ea
  simp only at ea ⊢
  subst ea
  refine ⟨fun h => ⟨h, ?_⟩, fun h => by rw [lcharD, h]; rfl⟩
  rintro ⟨b, _⟩ _ eb
  simp only at eb ⊢
  rw [lcharD, h, eb]; rfl
theorem h77 : c_host_label_1.ok Tryz.prog GL 77 := con_ok (H := {}) (mkEnv_ok (gl := GL) (l := [(78, conSem c_host_letter), (50, conSem c_host_digit)]) (q := []) (d := []) _ tyOk (by kernel_rfl) ⟨h78.call, h50.call, trivial⟩ trivial trivial) (by kernel_rfl) (by kernel_rfl) (Eq.mp e77 k77)
def t87 : Prop :=
  ∀ (x : q1), (q121 x) -> True -> True /\ (∀ (y : q4), (q67 y) -> y.1 = letterD x.1 -> (y.1 = false -> True) /\ (y.1 = false -> (y.1 == false) = true /\ True /\ (∀ (y : q4), (q67 y) -> y.1 =
  digitD x.1 -> (y.1 = false -> True) /\ (q295 y) /\ (y.1 = false -> True) /\ ((y.1 == false && y.1 == false) = true -> decide (x.1 ≠ q56) = true -> True) /\ ((y.1 == false && y.1 == false) =
  true -> decide (x.1 ≠ q56) = true -> (y.1 == false && y.1 == false && decide (x.1 ≠ q56) == true) = true /\ True /\ (∀ (y_1 : q1), (q52 y_1) -> y_1.1 = idxB (bs { data := #[q140, (95 :
  UInt8), (43 : UInt8), (45 : UInt8)] }) x.1 -> (y.1 = false -> True) /\ (y.1 = false -> (y.1 == false) = true) /\ (bif y.1 then true else decide (q55 y_1)) = mcharD x.1) /\ True) /\ ((y.1 ==
  false && y.1 == false) = true -> decide (x.1 ≠ q56) = !true -> (y.1 = false -> True) /\ (y.1 = false -> (y.1 == false) = true) /\ (bif y.1 then true else false) = mcharD x.1) /\ ((y.1 ==
  false && y.1 == false) = false -> (y.1 = false -> False) /\ (y.1 = !false -> true = mcharD x.1))) /\ True) /\ (y.1 = !false -> true = mcharD x.1)) /\ True
theorem e87 : t87 = Con.vc c_host_local_1 GL (mkEnv ty [(78, conSem c_host_letter), (50, conSem c_host_digit), (88, conSem c_strings_IndexByte)] [] [] [0, 2]) {} Tryz.f87.ntmps Tryz.f87.results.toList (bodyOf Tryz.f87) := by kernel_rfl
theorem k87 : t87 := by
  unfold t87
  delta q1 q121 q4 q67 q295 q56 q52 q140 q55 q553 wbZ wiZ q452
  rintro ⟨l, _⟩ hx hp
  try dsimp +instances only [dft_int, dft_sl, dft_str]
  simp only [true_and, and_true, eq_self_iff_true, implies_true, reduceCtorEq, false_implies, true_implies, decide_eq_true_eq, decide_eq_false_iff_not, beq_self_eq_true, Bool.not_eq_true', ne_eq, Decidable.not_not, List.nil_append, List.length_singleton, List.length_cons, List.length_nil, Nat.zero_add, Nat.add_zero, Nat.mul_one, and_self, beq_iff_eq, Bool.not_true, Bool.not_false, Bool.not_eq_false', Bool.cond_false_right, Bool.and_eq_true, imp_self, Bool.not_eq_true, Bool.cond_true_left, Bool.or_eq_true]
  have hb : bs { data := #[46, 95, 43, 45] } = [46, 95, 43, 45] := by decide
  have hi : decide (0 ≤ idxB [46, 95, 43, 45] l) = decide (l = 46 ∨ l = 95 ∨ l = 43 ∨ l = 45) := by
    refine decide_eq_decide.2 ((idxB_mem _ _).trans ?_)
    simp
  rw [hb]
  rintro ⟨a, _⟩ _ ea
  simp only at ea ⊢
  subst ea
  refine ⟨fun h => ⟨h, ?_⟩, fun h => by rw [mcharD, h]; rfl⟩
  rintro ⟨b, _⟩ _ eb
  simp only at eb ⊢
  refine ⟨fun h1 h2 => ⟨⟨h1, h2⟩, ?_⟩, fun h1 h2 => ?_, fun h1 => ⟨fun h2 => ?_, fun h2 => ?_⟩⟩
  . rintro ⟨c, _⟩ _ ec
    simp only at ec ⊢
    rw [mcharD, h, ← eb, h1, ec, hi]; rfl
  . subst h2
    rw [mcharD, h, ← eb, h1]; rfl
  . rw [h2] at h1; cases h1
  . rw [mcharD, h, ← eb, h2]; rfl
theorem h87 : c_host_local_1.ok Tryz.prog GL 87 := con_ok (H := {}) (mkEnv_ok (gl := GL) (l := [(78, conSem c_host_letter), (50, conSem c_host_digit), (88, conSem c_strings_IndexByte)]) (q := []) (d := []) _ tyOk (by kernel_rfl) ⟨h78.call, h50.call, h88.call, trivial⟩ trivial trivial) (by kernel_rfl) (by kernel_rfl) (Eq.mp e87 k87)
noncomputable def i49 : CallSem := vcFn (mkEnv ty [(77, conSem c_host_label_1), (87, conSem c_host_local_1), (50, conSem c_host_digit)] [] [] [0, 1, 4, 5, 7, 8, 9, 16]) {} Tryz.f49.ntmps Tryz.f49.results.toList (bodyOf Tryz.f49)
theorem i49_ok : CallOk Tryz.prog GL 49 i49 := inl_ok {} (mkEnv_ok (gl := GL) (l := [(77, conSem c_host_label_1), (87, conSem c_host_local_1), (50, conSem c_host_digit)]) (q := []) (d := []) _ tyOk (by kernel_rfl) ⟨h77.call, h87.call, h50.call, trivial⟩ trivial trivial) (by kernel_rfl) (by kernel_rfl)
def t48 : Prop :=
  ∀ (x : q6), (q88 x) -> List.length x.1 <= q103 -> (q182 x) /\ (q179 x) /\ (q179 x) /\ (q180 x) /\ ((q304 x) = false -> True) /\ ((q304 x) = false -> (q303 x) = true /\ (q84 x) /\ True) /\
  ((q304 x) = false -> (q303 x) = true /\ True) /\ ((q304 x) = false -> (q303 x) = true) /\ (q299 x) /\ (q299 x) /\ (q296 x) /\ (q296 x) /\ ((q302 x) = false -> (q300 x) = true /\ (q300 x) =
  true /\ (q56 <= wrZ ((lnZ x.1) - q491) /\ wrZ ((lnZ x.1) - q491) < (lnZ x.1)) /\ True) /\ (q296 x) /\ ((q302 x) = false -> (q300 x) = true) /\ ((q297 x) = true -> false = labelD x.1) /\
  ((q297 x) = false -> ∃ (I : q8), ∃ (μ : q9), (q301 x I) /\ ∀ (y : q10) (z : Unit), (q102 y) -> True -> I y z -> (decide (y.1 < (lnZ x.1)) = true -> (q254 y x) /\ True /\ (∀ (y_1 : q4), (q67
  y_1) -> y_1.1 = lcharD (q305 x y) -> ((!y_1.1) = true -> false = labelD x.1) /\ (q298 y_1 x I y μ z)) /\ True) /\ (decide (y.1 < (lnZ x.1)) = false -> true = labelD x.1))
theorem e48 : t48 = Con.vc c_host_label GL (mkEnv ty [(49, i49)] [] [] [0, 2, 22]) {} Tryz.f48.ntmps Tryz.f48.results.toList (bodyOf Tryz.f48) := by kernel_rfl
theorem k48 : t48 := by
  unfold t48
  delta q6 q88 q103 q182 q179 q180 q304 q303 q84 q299 q296 q302 q300 q56 wrZ lnZ q491 q297 q8 q9 q301 q10 q102 q254 q4 q67 q305 q298 wsZ q509 q452 q532 q565 q557 wiZ wbZ q507
  rintro ⟨l, _⟩ hx hp
  have hp : l.length ≤ 1000000000 := hp
  try dsimp +instances only [dft_int, dft_sl, dft_str]
  simp only [true_and, and_true, eq_self_iff_true, implies_true, reduceCtorEq, false_implies, true_implies, decide_eq_true_eq, decide_eq_false_iff_not, beq_self_eq_true, Bool.not_eq_true', ne_eq, Decidable.not_not, List.nil_append, List.length_singleton, List.length_cons, List.length_nil, Nat.zero_add, Nat.add_zero, Nat.mul_one, and_self, beq_iff_eq, Bool.not_true, Bool.not_false, Bool.not_eq_false', Bool.cond_false_right, Bool.and_eq_true, imp_self, Bool.not_eq_true, Bool.cond_true_left, Bool.or_eq_true]
  rw [bs_nil]
  have hl0 : l = [] ↔ l.length = 0 := ⟨fun h => by rw [h]; rfl, List.eq_nil_of_length_eq_zero⟩
  have hw : IntKind.wrap .i64 ((l.length : Int) - 1) = l.length - 1 := wrapK _ (by omega) (by omega)
  have ht : ((l.length : Int) - 1).toNat = l.length - 1 := by omega
  rw [hw, ht]
  simp only [hl0, Bool.or_eq_false_iff, decide_eq_false_iff_not]
  refine ⟨fun h => ⟨h, by omega, by omega⟩, fun h => ⟨h, h, by omega, by omega⟩, fun h => ?_, fun h => ?_⟩
  . rw [labelD, decide_eq_false (fun hh => by rw [Ne, hl0] at hh; omega)]; rfl
  . have hl : labelD l = l.all lcharD := by
      rw [labelD, decide_eq_true (by rw [Ne, hl0]; omega)]; rfl
    rw [hl]
    refine ⟨fun y _ => 0 ≤ y.1 ∧ y.1 ≤ l.length ∧ ∀ j, j < y.1.toNat → lcharD (l.getD j 0) = true, fun y _ => ((l.length : Int) - y.1).toNat, ⟨by decide, by omega, fun j hj => by simp at hj⟩, ?_⟩
    rintro ⟨i, b, _⟩ _ _ ⟨i0, i1, i2⟩
    simp only at i0 i1 i2 ⊢
    have hw1 : IntKind.wrap .i64 (i + 1) = i + 1 := wrapK _ (by omega) (by omega)
    rw [hw1]
    refine ⟨fun hlt => ⟨⟨i0, hlt⟩, ?_⟩, fun hge => (all_get _ _ (fun j hj => i2 j (by omega))).symm⟩
    rintro ⟨c, _⟩ _ ec
    simp only at ec ⊢
    refine ⟨fun h => (all_not _ _ i.toNat (by omega) (ec.symm.trans h)).symm, fun h => ⟨⟨by omega, by omega, fun j hj => ?_⟩, by omega⟩⟩
    by_cases hji : j < i.toNat
    . exact i2 j hji
    . rw [show j = i.toNat by omega, ← ec]; exact h
theorem h48 : c_host_label.ok Tryz.prog GL 48 := con_ok (H := {}) (mkEnv_ok (gl := GL) (l := [(49, i49)]) (q := []) (d := []) _ tyOk (by kernel_rfl) ⟨i49_ok, trivial⟩ trivial trivial) (by kernel_rfl) (by kernel_rfl) (Eq.mp e48 k48)
def t54 : Prop :=
  ∀ (x : q6), (q88 x) -> List.length x.1 <= q103 -> (decide (q87 x) = false -> True) /\ (decide (q87 x) = false -> (decide (q87 x) == false) = true /\ True) /\ (decide (q87 x) = false ->
  (decide (q87 x) == false) = true /\ True) /\ (decide (q87 x) = false -> (decide (q87 x) == false) = true) /\ ((bif decide (q87 x) then true else decide ((63 : Int) < (lnZ x.1))) = true ->
  false = labelD x.1) /\ ((bif decide (q87 x) then true else decide ((63 : Int) < (lnZ x.1))) = false -> ∃ (I : q8), ∃ (μ : q9), (Value.bool false = Value.bool false /\ x.1 = x.1 /\ I (q56,
  false, ()) ()) /\ ∀ (y : q10) (z : Unit), (q102 y) -> True -> I y z -> (decide (y.1 < (lnZ x.1)) = true -> (q254 y x) /\ True /\ (∀ (y_1 : q4), (q67 y_1) -> y_1.1 = letterD (q305 x y) ->
  ((!y_1.1) = true -> True) /\ ((!y_1.1) = true -> True) /\ ((!y_1.1) = true -> ((!y_1.1) == true) = true /\ ((!y_1.1) == true) = true /\ (q254 y x) /\ True) /\ ((!y_1.1) = true -> ((!y_1.1)
  == true) = true /\ True /\ (∀ (y_2 : q4), (q67 y_2) -> y_2.1 = digitD (q305 x y) -> ((!y_2.1) = true -> True) /\ ((!y_2.1) = true -> True) /\ ((!y_2.1) = true -> ((!y_2.1) == true) = true
  /\ ((!y_2.1) == true) = true /\ (q254 y x) /\ True) /\ ((!y_2.1) = true -> ((!y_2.1) == true) = true /\ True) /\ ((!y_2.1) = true -> True) /\ ((q312 y_2) = true -> decide (q311 x y) = false
  -> True) /\ ((q312 y_2) = true -> decide (q311 x y) = false -> ((!y_2.1) == true && (!y_2.1) == true && decide (q311 x y) == false) = true /\ True) /\ ((!y_2.1) = true -> (q312 y_2) = true
  /\ (decide (q311 x y) = false -> ((!y_2.1) == true && (!y_2.1) == true && decide (q311 x y) == false) = true) /\ True) /\ ((!y_2.1) = true -> True) /\ (q308 y_2 x y) /\ (q308 y_2 x y) /\
  (q306 y_2 x y) /\ (q306 y_2 x y) /\ ((q312 y_2) = true -> (q310 x y) = false -> (q309 y_2 x y) = true /\ (q309 y_2 x y) = true /\ True) /\ ((!y_2.1) = true -> (q312 y_2) = true /\ ((q310 x
  y) = false -> (q309 y_2 x y) = true) /\ True) /\ ((!y_2.1) = true -> ((!y_2.1) == true) = true) /\ ((q307 y_2 x y) = true -> false = labelD x.1) /\ ((q307 y_2 x y) = false -> Value.bool
  false = Value.bool false /\ x.1 = x.1 /\ I (wrZ (q104 y), y.2.1, ()) () /\ μ (wrZ (q104 y), y.2.1, ()) () < μ y z)) /\ True) /\ ((!y_1.1) = !true -> Value.bool false = Value.bool false /\
  x.1 = x.1 /\ I (wrZ (q104 y), y.2.1, ()) () /\ μ (wrZ (q104 y), y.2.1, ()) () < μ y z)) /\ True) /\ (decide (y.1 < (lnZ x.1)) = false -> true = labelD x.1))
theorem e54 : t54 = Con.vc c_r13_isLabel GL (mkEnv ty [(58, conSem c_r13_letter), (55, conSem c_r13_digit)] [] [] [0, 2, 3, 11, 15, 46]) {} Tryz.f54.ntmps Tryz.f54.results.toList (bodyOf Tryz.f54) := by kernel_rfl
theorem k54 : t54 := by
  unfold t54
  delta q6 q88 q103 q87 lnZ q8 q9 q56 q10 q102 q254 q4 q67 q305 q312 q311 q308 q306 q310 q309 q307 wrZ q104 wsZ q491 wiZ wbZ q452 q507 q533 q568 q557
  rintro ⟨l, _⟩ hx hp
  have hp : l.length ≤ 1000000000 := hp
  try dsimp +instances only [dft_int, dft_sl, dft_str]
  simp only [true_and, and_true, eq_self_iff_true, implies_true, reduceCtorEq, false_implies, true_implies, decide_eq_true_eq, decide_eq_false_iff_not, beq_self_eq_true, Bool.not_eq_true', ne_eq, Decidable.not_not, List.nil_append, List.length_singleton, List.length_cons, List.length_nil, Nat.zero_add, Nat.add_zero, Nat.mul_one, and_self, beq_iff_eq, Bool.not_true, Bool.not_false, Bool.not_eq_false', Bool.cond_false_right, Bool.and_eq_true, imp_self, Bool.not_eq_true, Bool.cond_true_left, Bool.or_eq_true]
  have hl0 : l = [] ↔ l.length = 0 := ⟨fun h => by rw [h]; rfl, List.eq_nil_of_length_eq_zero⟩
  have hw : IntKind.wrap .i64 ((l.length : Int) - 1) = l.length - 1 := wrapK _ (by omega) (by omega)
  rw [hw]
  simp only [Bool.or_eq_false_iff, decide_eq_false_iff_not, Bool.and_eq_false_iff, Bool.not_eq_false']
  refine ⟨fun h => ?_, fun h => ?_⟩
  . rw [labelD, decide_eq_false (by rw [Ne, hl0]; omega)]; rfl
  . have bad0 : l.getD 0 0 = 45 → labelD l = false := fun e => by rw [labelD, decide_eq_false (fun hh => hh.2.2.1 e)]; rfl
    have bad1 : l.getD (l.length - 1) 0 = 45 → labelD l = false := fun e => by rw [labelD, decide_eq_false (fun hh => hh.2.2.2 e)]; rfl
    have badc : ∀ i, i < l.length → lcharD (l.getD i 0) = false → labelD l = false := fun i hi e => by rw [labelD, all_not _ _ i hi e, Bool.and_false]
    have hgood : (∀ i, i < l.length → lcharD (l.getD i 0) = true) → l.getD 0 0 ≠ 45 → l.getD (l.length - 1) 0 ≠ 45 → labelD l = true := fun h1 h2 h3 => by
      rw [labelD, all_get _ _ h1, decide_eq_true ⟨by rw [Ne, hl0]; omega, by omega, h2, h3⟩]; rfl
    refine ⟨fun y _ => 0 ≤ y.1 ∧ y.1 ≤ l.length ∧ ∀ j, j < y.1.toNat → lcharD (l.getD j 0) = true ∧ (l.getD j 0 = 45 → j ≠ 0 ∧ j ≠ l.length - 1), fun y _ => ((l.length : Int) - y.1).toNat, ⟨by decide, by omega, fun j hj => by simp at hj⟩, ?_⟩
    rintro ⟨i, b, _⟩ _ _ ⟨i0, i1, i2⟩
    simp only at i0 i1 i2 ⊢
    have hw1 : IntKind.wrap .i64 (i + 1) = i + 1 := wrapK _ (by omega) (by omega)
    rw [hw1]
    have next : lcharD (l.getD i.toNat 0) = true → (l.getD i.toNat 0 = 45 → i ≠ 0 ∧ i ≠ l.length - 1) → i < l.length → (0 ≤ i + 1 ∧ i + 1 ≤ l.length ∧ ∀ j, j < (i + 1).toNat → lcharD (l.getD j 0) = true ∧ (l.getD j 0 = 45 → j ≠ 0 ∧ j ≠ l.length - 1)) ∧ ((l.length : Int) - (i + 1)).toNat < ((l.length : Int) - i).toNat := fun h1 h2 h3 => by
      refine ⟨⟨by omega, by omega, fun j hj => ?_⟩, by omega⟩
      by_cases hji : j < i.toNat
      . exact i2 j hji
      . rw [show j = i.toNat by omega]
        refine ⟨h1, fun e => ?_⟩
        have := h2 e
        omega
    refine ⟨fun hlt => ⟨⟨i0, hlt⟩, ?_⟩, fun hge => (hgood (fun j hj => (i2 j (by omega)).1) (fun e => ((i2 0 (by omega)).2 e).1 rfl) (fun e => ((i2 (l.length - 1) (by omega)).2 e).2 rfl)).symm⟩
    rintro ⟨c, _⟩ _ ec
    simp only at ec ⊢
    refine ⟨fun h => ⟨h, h, i0, hlt⟩, fun h => ⟨h, ?_⟩, fun h => next (by rw [lcharD, ← ec, h]; rfl) (fun e => by rw [e] at ec; rw [ec] at h; cases h) hlt⟩
    have hl1 := ec.symm.trans h
    rintro ⟨d, _⟩ _ ed
    simp only at ed ⊢
    refine ⟨fun h => ⟨h, h, i0, hlt⟩, fun h1 h2 => ⟨h1, h2⟩, fun h1 => ⟨h1, fun h2 => ⟨h1, h2⟩⟩, fun h1 h2 => ⟨h1, h2⟩, fun h1 h2 => ⟨h1, h2⟩, fun h1 h2 => ⟨h1, h2⟩, fun h1 => ⟨h1, fun h2 => ⟨h1, h2⟩⟩, fun h1 => ?_, fun h1 => ?_⟩
    . refine Eq.symm ?_
      obtain ⟨h1, h2⟩ := h1
      have hd := ed.symm.trans h1
      rcases h2 with (h2 | h2) | h2
      . exact badc i.toNat (by omega) (by rw [lcharD, hl1, hd, decide_eq_false h2]; rfl)
      . by_cases e : l.getD i.toNat 0 = 45
        . exact bad0 (by rw [h2] at e; exact e)
        . exact badc i.toNat (by omega) (by rw [lcharD, hl1, hd, decide_eq_false e]; rfl)
      . by_cases e : l.getD i.toNat 0 = 45
        . exact bad1 (by rw [h2, show ((l.length : Int) - 1).toNat = l.length - 1 by omega] at e; exact e)
        . exact badc i.toNat (by omega) (by rw [lcharD, hl1, hd, decide_eq_false e]; rfl)
    . rcases h1 with h1 | h1
      . refine next (by rw [lcharD, hl1, ← ed, h1]; rfl) (fun e => ?_) hlt
        rw [e] at ed
        rw [ed] at h1
        cases h1
      . have e : l.getD i.toNat 0 = 45 := Classical.not_not.1 h1.1.1
        exact next (by rw [e]; decide) (fun _ => ⟨h1.1.2, h1.2⟩) hlt
theorem h54 : c_r13_isLabel.ok Tryz.prog GL 54 := con_ok (H := {}) (mkEnv_ok (gl := GL) (l := [(58, conSem c_r13_letter), (55, conSem c_r13_digit)]) (q := []) (d := []) _ tyOk (by kernel_rfl) ⟨h58.call, h55.call, trivial⟩ trivial trivial) (by kernel_rfl) (by kernel_rfl) (Eq.mp e54 k54)
def t56 : Prop :=
  ∀ (x : q6), (q88 x) -> List.length x.1 <= q103 -> (q182 x) /\ (q179 x) /\ (q179 x) /\ (q180 x) /\ ((q319 x) = false -> True) /\ ((q319 x) = false -> (q318 x) = true /\ (q84 x) /\ True) /\
  ((q319 x) = false -> (q318 x) = true /\ True) /\ ((q319 x) = false -> (q318 x) = true) /\ (q315 x) /\ (q315 x) /\ (q313 x) /\ (q313 x) /\ ((q317 x) = false -> (q316 x) = true /\ (q316 x) =
  true /\ (q56 <= wrZ ((lnZ x.1) - q491) /\ wrZ ((lnZ x.1) - q491) < (lnZ x.1)) /\ True) /\ (q313 x) /\ ((q317 x) = false -> (q316 x) = true) /\ ((q314 x) = false -> True) /\ ((q314 x) =
  false -> ((q314 x) == false) = true /\ List.length x.1 < q54 /\ (∀ (y : q4), (q67 y) -> y.1 = decide (q56 <= idxS x.1 (bs { data := #[q140, q140] })) -> (y.1 = true -> false = localD x.1)
  /\ (y.1 = false -> ∃ (I : q8), ∃ (μ : q9), (q301 x I) /\ ∀ (y : q10) (z : Unit), (q102 y) -> True -> I y z -> (decide (y.1 < (lnZ x.1)) = true -> (q254 y x) /\ True /\ (∀ (y_1 : q4), (q67
  y_1) -> y_1.1 = mcharD (q305 x y) -> ((!y_1.1) = true -> false = localD x.1) /\ (q298 y_1 x I y μ z)) /\ True) /\ (decide (y.1 < (lnZ x.1)) = false -> true = localD x.1))) /\ True) /\
  ((q314 x) = !false -> false = localD x.1)
theorem e56 : t56 = Con.vc c_host_local GL (mkEnv ty [(49, i49), (43, conSem c_strings_Contains)] [] [] [0, 2, 26]) {} Tryz.f56.ntmps Tryz.f56.results.toList (bodyOf Tryz.f56) := by kernel_rfl
theorem k56 : t56 := by
  unfold t56
  delta q6 q88 q103 q182 q179 q180 q319 q318 q84 q315 q313 q317 q316 q56 wrZ lnZ q491 q314 q54 q4 q67 q140 q8 q9 q301 q10 q102 q254 q305 q298 wsZ q509 q455 q452 q534 q535 wbZ wiZ q507 q565 q557
  rintro ⟨l, _⟩ hx hp
  have hp : l.length ≤ 1000000000 := hp
  try dsimp +instances only [dft_int, dft_sl, dft_str]
  simp only [true_and, and_true, eq_self_iff_true, implies_true, reduceCtorEq, false_implies, true_implies, decide_eq_true_eq, decide_eq_false_iff_not, beq_self_eq_true, Bool.not_eq_true', ne_eq, Decidable.not_not, List.nil_append, List.length_singleton, List.length_cons, List.length_nil, Nat.zero_add, Nat.add_zero, Nat.mul_one, and_self, beq_iff_eq, Bool.not_true, Bool.not_false, Bool.not_eq_false', Bool.cond_false_right, Bool.and_eq_true, imp_self, Bool.not_eq_true, Bool.cond_true_left, Bool.or_eq_true]
  have hb : bs { data := #[46, 46] } = [46, 46] := by decide
  rw [bs_nil, hb, idxS_dots]
  have hl0 : l = [] ↔ l.length = 0 := ⟨fun h => by rw [h]; rfl, List.eq_nil_of_length_eq_zero⟩
  have hw : IntKind.wrap .i64 ((l.length : Int) - 1) = l.length - 1 := wrapK _ (by omega) (by omega)
  have ht : ((l.length : Int) - 1).toNat = l.length - 1 := by omega
  rw [hw, ht]
  simp only [hl0, Bool.or_eq_false_iff, decide_eq_false_iff_not]
  refine ⟨fun h => ⟨h, by omega, by omega⟩, fun h => ⟨h, h, by omega, by omega⟩, fun h => ⟨h, by omega, ?_⟩, fun h => ?_⟩
  . rintro ⟨a, _⟩ _ ea
    simp only at ea ⊢
    have hl : localD l = (!dotsD l && l.all mcharD) := by
      rw [localD, decide_eq_true (by rw [Ne, hl0]; omega)]; rfl
    rw [hl, ← ea]
    refine ⟨fun h => by rw [h]; rfl, fun h => ?_⟩
    rw [h]
    show ∃ I μ, _
    refine ⟨fun y _ => 0 ≤ y.1 ∧ y.1 ≤ l.length ∧ ∀ j, j < y.1.toNat → mcharD (l.getD j 0) = true, fun y _ => ((l.length : Int) - y.1).toNat, ⟨by decide, by omega, fun j hj => by simp at hj⟩, ?_⟩
    rintro ⟨i, b, _⟩ _ _ ⟨i0, i1, i2⟩
    simp only at i0 i1 i2 ⊢
    have hw1 : IntKind.wrap .i64 (i + 1) = i + 1 := wrapK _ (by omega) (by omega)
    rw [hw1]
    refine ⟨fun hlt => ⟨⟨i0, hlt⟩, ?_⟩, fun hge => (all_get _ _ (fun j hj => i2 j (by omega))).symm⟩
    rintro ⟨c, _⟩ _ ec
    simp only at ec ⊢
    refine ⟨fun h => (all_not _ _ i.toNat (by omega) (ec.symm.trans h)).symm, fun h => ⟨⟨by omega, by omega, fun j hj => ?_⟩, by omega⟩⟩
    by_cases hji : j < i.toNat
    . exact i2 j hji
    . rw [show j = i.toNat by omega, ← ec]; exact h
  . rw [localD, decide_eq_false (fun hh => by rw [Ne, hl0] at hh; omega)]; rfl
theorem h56 : c_host_local.ok Tryz.prog GL 56 := con_ok (H := {}) (mkEnv_ok (gl := GL) (l := [(49, i49), (43, conSem c_strings_Contains)]) (q := []) (d := []) _ tyOk (by kernel_rfl) ⟨i49_ok, h43.call, trivial⟩ trivial trivial) (by kernel_rfl) (by kernel_rfl) (Eq.mp e56 k56)
noncomputable def i76 : CallSem → CallSem := vcSeq (mkEnv ty [(46, conSem c_strings_Cut)] [] [] [0, 1, 3, 4, 5, 17]) {} Tryz.f76.ntmps Tryz.f76.results.toList (bodyOf Tryz.f76)
theorem i76_ok : SeqOk Tryz.prog GL 76 i76 := seq_ok {} (mkEnv_ok (gl := GL) (l := [(46, conSem c_strings_Cut)]) (q := []) (d := []) _ tyOk (by kernel_rfl) ⟨h46.call, trivial⟩ trivial trivial) (by kernel_rfl) (by kernel_rfl)
noncomputable def i47 : CallSem := vcFn (mkEnv ty [] [] [] [0, 1, 2]) {} Tryz.f47.ntmps Tryz.f47.results.toList (bodyOf Tryz.f47)
theorem i47_ok : CallOk Tryz.prog GL 47 i47 := inl_ok {} (mkEnv_ok (gl := GL) (l := []) (q := []) (d := []) _ tyOk (by kernel_rfl) trivial trivial trivial) (by kernel_rfl) (by kernel_rfl)
def t25 : Prop :=
  ∀ (x : q6), (q88 x) -> List.length x.1 <= q103 -> q59 <= q89 /\ (decide ((253 : Int) < (lnZ x.1)) = true -> false = dnsD x.1) /\ (decide ((253 : Int) < (lnZ x.1)) = false -> q59 <= q89 /\
  List.length [SV.dat Kd.str x.1] <= q89 /\ (List.length x.1 < q54 /\ List.length q322 = q59) /\ (∀ (y : q3), (q60 y) -> y.1 = (q321 x).1 /\ y.2.1 = (q321 x).2.1 /\ y.2.2.1 = (q321 x).2.2 ->
  ∃ (I : Bool × List Int × List Int × Unit -> (Bool × Unit) × q161 × q161 × Unit -> Prop), ∃ (μ : Bool × List Int × List Int × Unit -> (Bool × Unit) × q161 × q161 × Unit -> Nat), (Value.bool
  false = Value.bool false /\ x.1 = x.1 /\ I (y.2.2.1, y.2.1, y.1, ()) ((false, ()), (bs { data := #[] }, ()), (x.1, ()), ())) /\ ∀ (y : Bool × List Int × List Int × Unit) (z : q33), (wbZ y.1
  /\ wsZ y.2.1 /\ wsZ y.2.2.1 /\ True) -> (wbZ z.1.1 /\ True) /\ (wsZ z.2.1.1 /\ True) /\ (wsZ z.2.2.1.1 /\ True) /\ True -> I y z -> List.length y.2.2.1 <= q103 /\ (∀ (y_1 : q4), (q67 y_1)
  -> y_1.1 = labelD y.2.2.1 -> ((!y_1.1) = true -> false = dnsD x.1) /\ ((!y_1.1) = false -> (y.1 = true -> (List.length y.2.1 < q54 /\ List.length q322 = q59) /\ (∀ (y_2 : q3), (q60 y_2) ->
  y_2.1 = (q320 y).1 /\ y_2.2.1 = (q320 y).2.1 /\ y_2.2.2.1 = (q320 y).2.2 -> Value.bool false = Value.bool false /\ x.1 = x.1 /\ I (y_2.2.2.1, y_2.2.1, y_2.1, ()) ((z.1.1, ()), (y.2.2.1,
  ()), (z.2.2.1.1, ()), ()) /\ μ (y_2.2.2.1, y_2.2.1, y_2.1, ()) ((z.1.1, ()), (y.2.2.1, ()), (z.2.2.1.1, ()), ()) < μ y z) /\ True) /\ (y.1 = false -> ∃ (I : Int × Bool × Unit -> (Bool ×
  Unit) × q161 × q161 × Unit -> Prop), ∃ (μ : Int × Bool × Unit -> (Bool × Unit) × q161 × q161 × Unit -> Nat), ((lnZ y.2.2.1) = (lnZ y.2.2.1) /\ y.2.2.1 = y.2.2.1 /\ y.2.2.1 = y.2.2.1 /\
  Value.bool false = Value.bool false /\ x.1 = x.1 /\ I (q56, false, ()) ((z.1.1, ()), (y.2.2.1, ()), (z.2.2.1.1, ()), ())) /\ ∀ (y_2 : q10) (z : q33), (q102 y_2) -> (wbZ z.1.1 /\ True) /\
  (wsZ z.2.1.1 /\ True) /\ (wsZ z.2.2.1.1 /\ True) /\ True -> I y_2 z -> (decide (y_2.1 < (lnZ y.2.2.1)) = true -> (q56 <= y_2.1 /\ y_2.1 < (lnZ y.2.2.1)) /\ True /\ (∀ (y_3 : q4), (q67 y_3)
  -> y_3.1 = digitD (List.getD y.2.2.1 (q142 y_2) q56) -> ((!y_3.1) = true -> (!false) = dnsD x.1) /\ ((!y_3.1) = false -> (lnZ y.2.2.1) = (lnZ y.2.2.1) /\ y.2.2.1 = y.2.2.1 /\ y.2.2.1 =
  y.2.2.1 /\ Value.bool false = Value.bool false /\ x.1 = x.1 /\ I (wrZ (q104 y_2), y_2.2.1, ()) ((z.1.1, ()), (z.2.1.1, ()), (z.2.2.1.1, ()), ()) /\ μ (wrZ (q104 y_2), y_2.2.1, ()) ((z.1.1,
  ()), (z.2.1.1, ()), (z.2.2.1.1, ()), ()) < μ y_2 z)) /\ True) /\ (decide (y_2.1 < (lnZ y.2.2.1)) = false -> (!true) = dnsD x.1)))) /\ True) /\ True)
theorem e25 : t25 = Con.vc c_host_DNS GL (mkEnv ty [(47, i47), (48, conSem c_host_label), (49, i49)] [(76, i76)] [] [0, 2, 3, 4, 7, 9, 10, 13]) {} Tryz.f25.ntmps Tryz.f25.results.toList (bodyOf Tryz.f25) := by kernel_rfl
theorem k25 : t25 := by
  unfold t25
  delta q6 q88 q103 q59 q89 lnZ q54 q322 q3 q60 q321 q161 q33 wbZ wsZ q4 q67 q320 q56 q10 q102 q142 wrZ q104 q477 q452 wiZ q491
  rintro ⟨l, _⟩ hx hp
  have hp : l.length ≤ 1000000000 := hp
  try dsimp +instances only [dft_int, dft_sl, dft_str]
  simp only [true_and, and_true, eq_self_iff_true, implies_true, reduceCtorEq, false_implies, true_implies, decide_eq_true_eq, decide_eq_false_iff_not, beq_self_eq_true, Bool.not_eq_true', ne_eq, Decidable.not_not, List.nil_append, List.length_singleton, List.length_cons, List.length_nil, Nat.zero_add, Nat.add_zero, Nat.mul_one, and_self, beq_iff_eq, Bool.not_true, Bool.not_false, Bool.not_eq_false', Bool.cond_false_right, Bool.and_eq_true, imp_self, Bool.not_eq_true, Bool.cond_true_left, Bool.or_eq_true]
  have hb : bs { data := #[46] } = [46] := by decide
  have hd : ([46] : List Int).getD 0 0 = 46 := rfl
  rw [hb, hd, bs_nil]
  refine ⟨by decide, fun h => (dns_long (by omega)).symm, fun hn => ⟨by decide, by decide, ⟨by omega, rfl⟩, ?_⟩⟩
  rintro ⟨wd, rest, more, _⟩ _ ⟨e1, e2, e3⟩
  simp only at e1 e2 e3 ⊢
  have hcl := cutD_len l 46
  refine ⟨fun y _ => y.2.2.1.length ≤ l.length ∧ y.2.1.length ≤ l.length ∧ ∃ P, P.all labelD = true ∧ labelsD l = P ++ (y.2.2.1 :: if y.1 then labelsD y.2.1 else []), fun y _ => if y.1 then y.2.1.length + 1 else 0,
    ⟨by rw [e1]; exact hcl.1, by rw [e2]; exact hcl.2, [], rfl, by rw [e1, e2, e3]; exact labels_cut l⟩, ?_⟩
  rintro ⟨mo, re, w, _⟩ ⟨⟨z1, _⟩, ⟨z2, _⟩, ⟨z3, _⟩, _⟩ _ _ ⟨w1, w2, P, hP, hW⟩
  simp only at w1 w2 hW ⊢
  refine ⟨by omega, ?_⟩
  rintro ⟨b, _⟩ _ eb
  simp only at eb ⊢
  refine ⟨fun h => (dns_bad (w := w) (by rw [hW]; simp) (eb.symm.trans h)).symm, fun h => ⟨fun hm => ⟨⟨by omega, rfl⟩, ?_⟩, fun hm => ?_⟩⟩
  . rintro ⟨wd', re', mo', _⟩ _ ⟨f1, f2, f3⟩
    simp only at f1 f2 f3 ⊢
    have hcl := cutD_len re 46
    have hj := congrArg List.length (cutD_join re 46)
    rw [← f1, ← f2, ← f3] at hj
    rw [← f1, ← f2] at hcl
    refine ⟨⟨by omega, by omega, P ++ [w], ?_, ?_⟩, ?_⟩
    . rw [List.all_append, hP]
      simp [← eb, h]
    . rw [hW, hm, f1, f2, f3]
      simp only [if_true]
      rw [labels_cut re, List.append_assoc]
      rfl
    . rw [hm]
      simp only [if_true]
      split
      . rename_i hmo
        rw [hmo] at hj
        simp at hj
        omega
      . omega
  . have hWe : labelsD l = P ++ [w] := by rw [hW, hm]; rfl
    have hdn : dnsD l = !w.all digitD := by
      rw [dns_last (by omega) (by rw [hWe, List.all_append, hP]; simp [← eb, h]), hWe, last_snoc]
    rw [hdn]
    refine ⟨fun y _ => 0 ≤ y.1 ∧ y.1 ≤ w.length ∧ ∀ j, j < y.1.toNat → digitD (w.getD j 0) = true, fun y _ => ((w.length : Int) - y.1).toNat, ⟨Int.le_refl 0, by simp only; omega, fun j hj => by simp at hj⟩, ?_⟩
    rintro ⟨i, b2, _⟩ z _ _ ⟨i0, i1, i2⟩
    simp only at i0 i1 i2 ⊢
    have hw1 : IntKind.wrap .i64 (i + 1) = i + 1 := wrapK _ (by omega) (by omega)
    rw [hw1]
    refine ⟨fun hlt => ⟨⟨i0, hlt⟩, ?_⟩, fun hge => by rw [all_get _ _ (fun j hj => i2 j (by omega))]; rfl⟩
    rintro ⟨c, _⟩ _ ec
    simp only at ec ⊢
    refine ⟨fun h => by rw [all_not _ _ i.toNat (by omega) (ec.symm.trans h)]; rfl, fun h => ⟨⟨by omega, by omega, fun j hj => ?_⟩, by omega⟩⟩
    by_cases hji : j < i.toNat
    . exact i2 j hji
    . rw [show j = i.toNat by omega, ← ec]; exact h
theorem h25 : c_host_DNS.ok Tryz.prog GL 25 := con_ok (H := {}) (mkEnv_ok (gl := GL) (l := [(47, i47), (48, conSem c_host_label), (49, i49)]) (q := [(76, i76)]) (d := []) _ tyOk (by kernel_rfl) ⟨i47_ok, h48.call, i49_ok, trivial⟩ ⟨i76_ok, trivial⟩ trivial) (by kernel_rfl) (by kernel_rfl) (Eq.mp e25 k25)
def t29 : Prop :=
  ∀ (x : q6), (q88 x) -> List.length x.1 <= q103 -> ∃ (I : Int × Int × Unit -> List (List Int) × Unit -> Prop), ∃ (μ : Int × Int × Unit -> List (List Int) × Unit -> Nat), (Value.slice none
  q91 q91 = Value.slice none q91 q91 /\ x.1 = x.1 /\ I (q56, q56, ()) ([], ())) /\ ∀ (y : q7) (z : q14), (q113 y) -> (q149 z) -> I y z -> (decide (y.1 < (lnZ x.1)) = true -> (q56 <= y.1 /\
  y.1 < (lnZ x.1)) /\ (decide (List.getD x.1 (Int.toNat y.1) q56 = (46 : Int)) = true -> (q56 <= y.2.1 /\ y.2.1 <= y.1 /\ y.1 <= (lnZ x.1)) /\ q91 < q59 /\ (List.length z.1 + List.length
  [List.drop (Int.toNat y.2.1) (q150 y x)]) * (16 : Nat) <= q152 /\ List.length z.1 + List.length [List.drop (Int.toNat y.2.1) (q150 y x)] <= q151 /\ Value.slice none q91 q91 = Value.slice
  none q91 q91 /\ x.1 = x.1 /\ I (wrZ (q114 y), wrZ (q114 y), ()) (z.1 ++ [List.drop (Int.toNat y.2.1) (q150 y x)], ()) /\ μ (wrZ (q114 y), wrZ (q114 y), ()) (z.1 ++ [List.drop (Int.toNat
  y.2.1) (q150 y x)], ()) < μ y z) /\ (decide (List.getD x.1 (Int.toNat y.1) q56 = (46 : Int)) = false -> Value.slice none q91 q91 = Value.slice none q91 q91 /\ x.1 = x.1 /\ I (wrZ (q114 y),
  y.2.1, ()) (z.1, ()) /\ μ (wrZ (q114 y), y.2.1, ()) (z.1, ()) < μ y z)) /\ (decide (y.1 < (lnZ x.1)) = false -> (q56 <= y.2.1 /\ y.2.1 <= (lnZ x.1)) /\ q91 < q59 /\ (List.length z.1 +
  List.length [List.drop (Int.toNat y.2.1) x.1]) * (16 : Nat) <= q152 /\ List.length z.1 + List.length [List.drop (Int.toNat y.2.1) x.1] <= q151 /\ z.1 ++ [List.drop (Int.toNat y.2.1) x.1] =
  labelsD x.1)
theorem e29 : t29 = Con.vc c_r13_Labels GL (mkEnv ty [] [] [] [0, 2, 3, 4, 5, 9, 15]) {} Tryz.f29.ntmps Tryz.f29.results.toList (bodyOf Tryz.f29) := by kernel_rfl
theorem k29 : t29 := by
  unfold t29
  delta q6 q88 q103 q91 q56 q7 q14 q113 q149 lnZ q59 q150 q152 q151 wrZ q114 wsZ wiZ q491
  rintro ⟨l, _⟩ hx hp
  have hp : l.length ≤ 1000000000 := hp
  try dsimp +instances only [dft_int, dft_sl, dft_str]
  simp only [true_and, and_true, eq_self_iff_true, implies_true, reduceCtorEq, false_implies, true_implies, decide_eq_true_eq, decide_eq_false_iff_not, beq_self_eq_true, Bool.not_eq_true', ne_eq, Decidable.not_not, List.nil_append, List.length_singleton, List.length_cons, List.length_nil, Nat.zero_add, Nat.add_zero, Nat.mul_one, and_self, beq_iff_eq, Bool.not_true, Bool.not_false, Bool.not_eq_false', Bool.cond_false_right, Bool.and_eq_true, imp_self, Bool.not_eq_true, Bool.cond_true_left, Bool.or_eq_true]
  refine ⟨fun y z => 0 ≤ y.2.1 ∧ y.2.1 ≤ y.1 ∧ y.1 ≤ l.length ∧ (z.1.length : Int) ≤ y.1 ∧ labelsD l = z.1 ++ splitA 46 ((l.take y.1.toNat).drop y.2.1.toNat) (l.drop y.1.toNat), fun y _ => ((l.length : Int) - y.1).toNat, ⟨Int.le_refl 0, Int.le_refl 0, by simp only; omega, by simp, rfl⟩, ?_⟩
  rintro ⟨i, f, _⟩ ⟨z, _⟩ _ _ ⟨f0, f1, i1, z1, hW⟩
  simp only at f0 f1 i1 z1 hW ⊢
  have hw1 : IntKind.wrap .i64 (i + 1) = i + 1 := wrapK _ (by omega) (by omega)
  rw [hw1]
  refine ⟨fun hlt => ⟨⟨by omega, hlt⟩, fun hc => ⟨⟨f0, f1, i1⟩, by decide, by omega, by omega, ⟨by omega, by omega, by omega, by simp; omega, ?_⟩, by omega⟩, fun hc => ⟨⟨f0, by omega, by omega, by omega, ?_⟩, by omega⟩⟩, fun hge => ⟨⟨f0, by omega⟩, by decide, by omega, by omega, ?_⟩⟩
  . rw [hW, drop_cons l i.toNat (by omega), hc, splitA, if_pos rfl, List.append_assoc, show (i + 1).toNat = i.toNat + 1 by omega, List.drop_of_length_le (by simp; omega : (l.take (i.toNat + 1)).length ≤ i.toNat + 1)]
    rfl
  . rw [hW, drop_cons l i.toNat (by omega), splitA, if_neg hc, show (i + 1).toNat = i.toNat + 1 by omega, take_snoc l i.toNat (by omega), List.drop_append_of_le_length (by simp; omega)]
  . rw [hW, List.drop_of_length_le (by omega : l.length ≤ i.toNat), List.take_of_length_le (by omega : l.length ≤ i.toNat)]
    rfl
theorem h29 : c_r13_Labels.ok Tryz.prog GL 29 := con_ok (H := {}) (mkEnv_ok (gl := GL) (l := []) (q := []) (d := []) _ tyOk (by kernel_rfl) trivial trivial trivial) (by kernel_rfl) (by kernel_rfl) (Eq.mp e29 k29)
def t28 : Prop :=
  ∀ (x : q6), (q88 x) -> List.length x.1 <= q103 -> (decide ((253 : Int) < (lnZ x.1)) = true -> false = dnsD x.1) /\ (decide ((253 : Int) < (lnZ x.1)) = false -> List.length x.1 <= q103 /\ (∀
  (y : q14), (q149 y) -> y.1 = labelsD x.1 -> ∃ (I : q8), ∃ (μ : q9), (Value.bool false = Value.bool false /\ x.1 = x.1 /\ y.1 = y.1 /\ I (q56, false, ()) ()) /\ ∀ (y_1 : q10) (z : Unit),
  (q102 y_1) -> True -> I y_1 z -> (decide (y_1.1 < (lnZ y.1)) = true -> (q56 <= y_1.1 /\ y_1.1 < (lnZ y.1)) /\ List.length (List.getD y.1 (q142 y_1) q193) <= q103 /\ (∀ (y_2 : q4), (q67 y_2)
  -> y_2.1 = labelD (List.getD y.1 (q142 y_1) q193) -> ((!y_2.1) = true -> false = dnsD x.1) /\ ((!y_2.1) = false -> Value.bool false = Value.bool false /\ x.1 = x.1 /\ y.1 = y.1 /\ I (wrZ
  (q104 y_1), y_1.2.1, ()) () /\ μ (wrZ (q104 y_1), y_1.2.1, ()) () < μ y_1 z)) /\ True) /\ (decide (y_1.1 < (lnZ y.1)) = false -> (q56 <= wrZ ((lnZ y.1) - q491) /\ wrZ ((lnZ y.1) - q491) <
  (lnZ y.1)) /\ ∃ (I : q8), ∃ (μ : q9), (List.getD y.1 (q324 y) q193 = List.getD y.1 (q324 y) q193 /\ Value.bool false = Value.bool false /\ y_1.1 = y_1.1 /\ Value.bool false = Value.bool
  false /\ x.1 = x.1 /\ y.1 = y.1 /\ I (q56, y_1.2.1, ()) ()) /\ ∀ (y_2 : q10) (z : Unit), (q102 y_2) -> True -> I y_2 z -> (decide (y_2.1 < (q323 y)) = true -> (q56 <= y_2.1 /\ y_2.1 < (q323
  y)) /\ True /\ (∀ (y_3 : q4), (q67 y_3) -> y_3.1 = digitD (List.getD (List.getD y.1 (Int.toNat (wrZ ((lnZ y.1) - q491))) (Kd.dft Kd.str)) (q142 y_2) q56) -> ((!y_3.1) = true -> true = dnsD
  x.1) /\ ((!y_3.1) = false -> List.getD y.1 (q324 y) q193 = List.getD y.1 (q324 y) q193 /\ Value.bool false = Value.bool false /\ y_1.1 = y_1.1 /\ Value.bool false = Value.bool false /\ x.1
  = x.1 /\ y.1 = y.1 /\ I (wrZ (q104 y_2), y_2.2.1, ()) () /\ μ (wrZ (q104 y_2), y_2.2.1, ()) () < μ y_2 z)) /\ True) /\ (decide (y_2.1 < (q323 y)) = false -> false = dnsD x.1))) /\ True)
theorem e28 : t28 = Con.vc c_r13_DNS GL (mkEnv ty [(29, conSem c_r13_Labels), (54, conSem c_r13_isLabel), (55, conSem c_r13_digit)] [] [] [0, 2, 3, 4, 5, 6, 9, 15, 23, 33, 40]) {} Tryz.f28.ntmps Tryz.f28.results.toList (bodyOf Tryz.f28) := by kernel_rfl
theorem k28 : t28 := by
  unfold t28
  delta q6 q88 q103 lnZ q14 q149 q8 q9 q56 q10 q102 q142 q193 q4 q67 wrZ q104 q491 q324 q323 wsZ wiZ wbZ
  rintro ⟨l, _⟩ hx hp
  have hp : l.length ≤ 1000000000 := hp
  try dsimp +instances only [dft_int, dft_sl, dft_str]
  simp only [true_and, and_true, eq_self_iff_true, implies_true, reduceCtorEq, false_implies, true_implies, decide_eq_true_eq, decide_eq_false_iff_not, beq_self_eq_true, Bool.not_eq_true', ne_eq, Decidable.not_not, List.nil_append, List.length_singleton, List.length_cons, List.length_nil, Nat.zero_add, Nat.add_zero, Nat.mul_one, and_self, beq_iff_eq, Bool.not_true, Bool.not_false, Bool.not_eq_false', Bool.cond_false_right, Bool.and_eq_true, imp_self, Bool.not_eq_true, Bool.cond_true_left, Bool.or_eq_true]
  refine ⟨fun h => (dns_long (by omega)).symm, fun hn => ⟨hp, ?_⟩⟩
  rintro ⟨W, _⟩ _ eW
  simp only at eW ⊢
  have hWl := labels_len l
  rw [← eW] at hWl
  have hmem : ∀ i, i < W.length → W.getD i [] ∈ labelsD l := fun i hi => by rw [← eW]; exact mem_getD [] W i hi
  refine ⟨fun y _ => 0 ≤ y.1 ∧ y.1 ≤ W.length ∧ ∀ j, j < y.1.toNat → labelD (W.getD j []) = true, fun y _ => ((W.length : Int) - y.1).toNat, ⟨Int.le_refl 0, by simp only; omega, fun j hj => by simp at hj⟩, ?_⟩
  rintro ⟨i, b, _⟩ _ _ ⟨i0, i1, i2⟩
  simp only at i0 i1 i2 ⊢
  have hw1 : IntKind.wrap .i64 (i + 1) = i + 1 := wrapK _ (by omega) (by omega)
  have hw2 : IntKind.wrap .i64 ((W.length : Int) - 1) = W.length - 1 := wrapK _ (by omega) (by omega)
  have hw3 : ((W.length : Int) - 1).toNat = W.length - 1 := by omega
  rw [hw1, hw2, hw3]
  refine ⟨fun hlt => ⟨⟨i0, hlt⟩, ?_, ?_⟩, fun hge => ⟨⟨by omega, by omega⟩, ?_⟩⟩
  . have := labelH_len (hmem i.toNat (by omega))
    omega
  . rintro ⟨c, _⟩ _ ec
    simp only at ec ⊢
    refine ⟨fun h => (dns_bad (hmem i.toNat (by omega)) (ec.symm.trans h)).symm, fun h => ⟨⟨by omega, by omega, fun j hj => ?_⟩, by omega⟩⟩
    by_cases hji : j < i.toNat
    . exact i2 j hji
    . rw [show j = i.toNat by omega, ← ec]; exact h
  . have hdn : dnsD l = !(W.getD (W.length - 1) []).all digitD := by
      rw [dns_last (by omega) (by rw [← eW]; exact all_getA [] _ _ (fun j hj => i2 j (by omega))), ← eW, last_get W hWl.2]
    rw [hdn]
    have hll := labelH_len (hmem (W.length - 1) (by omega))
    generalize W.getD (W.length - 1) [] = w at hll ⊢
    refine ⟨fun y _ => 0 ≤ y.1 ∧ y.1 ≤ w.length ∧ ∀ j, j < y.1.toNat → digitD (w.getD j 0) = true, fun y _ => ((w.length : Int) - y.1).toNat, ⟨Int.le_refl 0, by simp only; omega, fun j hj => by simp at hj⟩, ?_⟩
    rintro ⟨i, b2, _⟩ z _ ⟨i0, i1, i2⟩
    simp only at i0 i1 i2 ⊢
    have hw1 : IntKind.wrap .i64 (i + 1) = i + 1 := wrapK _ (by omega) (by omega)
    rw [hw1]
    refine ⟨fun hlt => ⟨⟨i0, hlt⟩, ?_⟩, fun hge => by rw [all_get _ _ (fun j hj => i2 j (by omega))]; rfl⟩
    rintro ⟨c, _⟩ _ ec
    simp only at ec ⊢
    refine ⟨fun h => by rw [all_not _ _ i.toNat (by omega) (ec.symm.trans h)]; rfl, fun h => ⟨⟨by omega, by omega, fun j hj => ?_⟩, by omega⟩⟩
    by_cases hji : j < i.toNat
    . exact i2 j hji
    . rw [show j = i.toNat by omega, ← ec]; exact h
theorem h28 : c_r13_DNS.ok Tryz.prog GL 28 := con_ok (H := {}) (mkEnv_ok (gl := GL) (l := [(29, conSem c_r13_Labels), (54, conSem c_r13_isLabel), (55, conSem c_r13_digit)]) (q := []) (d := []) _ tyOk (by kernel_rfl) ⟨h29.call, h54.call, h55.call, trivial⟩ trivial trivial) (by kernel_rfl) (by kernel_rfl) (Eq.mp e28 k28)
def t17 : Prop :=
  ∀ (x : q6), (q88 x) -> List.length x.1 <= q103 -> True /\ (∀ (y : q5), (wsZ y.1 /\ wbZ y.2.1 /\ True) -> (y.1 = if hasP q326 x.1 = true then List.drop (List.length q326) x.1 else x.1) /\
  y.2.1 = hasP q326 x.1 -> (y.2.1 = true -> True) /\ (y.2.1 = true -> (y.2.1 == true) = true /\ True) /\ (y.2.1 = true -> (y.2.1 == true) = true /\ True) /\ (y.2.1 = true -> (y.2.1 == true) =
  true) /\ ((q325 y x) = true -> True) /\ ((q325 y x) = true -> ((q325 y x) == true) = true /\ List.length y.1 < q54 /\ (∀ (y_1 : q4), (q67 y_1) -> y_1.1 = decide (q56 <= idxS y.1 q322) ->
  (y_1.1 = true -> True) /\ (y_1.1 = true -> (y_1.1 == true) = true /\ List.length y.1 <= q103 /\ (∀ (y_2 : q4), (q67 y_2) -> y_2.1 = dnsD y.1 -> y_2.1 = wildD x.1) /\ True) /\ (y_1.1 = !true
  -> false = wildD x.1)) /\ True) /\ ((q325 y x) = !true -> false = wildD x.1)) /\ True
theorem e17 : t17 = Con.vc c_host_Wild GL (mkEnv ty [(42, conSem c_strings_CutPrefix), (43, conSem c_strings_Contains), (25, conSem c_host_DNS)] [] [] [0, 2, 3, 4]) {} Tryz.f17.ntmps Tryz.f17.results.toList (bodyOf Tryz.f17) := by kernel_rfl
theorem k17 : t17 := by
  unfold t17
  delta q6 q88 q103 q5 wsZ wbZ q326 q325 q54 q4 q67 q56 q322 lnZ
  rintro ⟨l, _⟩ hx hp
  have hp : l.length ≤ 1000000000 := hp
  try dsimp +instances only [dft_int, dft_sl, dft_str]
  simp only [true_and, and_true, eq_self_iff_true, implies_true, reduceCtorEq, false_implies, true_implies, decide_eq_true_eq, decide_eq_false_iff_not, beq_self_eq_true, Bool.not_eq_true', ne_eq, Decidable.not_not, List.nil_append, List.length_singleton, List.length_cons, List.length_nil, Nat.zero_add, Nat.add_zero, Nat.mul_one, and_self, beq_iff_eq, Bool.not_true, Bool.not_false, Bool.not_eq_false', Bool.cond_false_right, Bool.and_eq_true, imp_self, Bool.not_eq_true, Bool.cond_true_left, Bool.or_eq_true]
  have hb : bs { data := #[46] } = [46] := by decide
  have hb2 : bs { data := #[42, 46] } = [42, 46] := by decide
  rw [hb, hb2]
  rintro ⟨a, b, _⟩ _ ⟨ea, eb⟩
  simp only at ea eb ⊢
  have hal : a.length ≤ l.length := by rw [ea]; split <;> simp
  refine ⟨fun h => ⟨h, by omega, ?_⟩, fun h => ?_⟩
  . have hh : hasP [42, 46] l = true := eb.symm.trans h.1
    rw [if_pos hh] at ea
    have ea : a = l.drop 2 := ea
    rintro ⟨c, _⟩ _ ec
    simp only at ec ⊢
    rw [contains_one, ea] at ec
    have hwd : wildD l = (c && dnsD a) := by
      rw [wildD, hh, decide_eq_true (show l.length ≤ 253 by omega), ← ec, ← ea]; rfl
    rw [hwd]
    refine ⟨fun hc => ⟨hc, by omega, ?_⟩, fun hc => by rw [hc]; rfl⟩
    rintro ⟨d, _⟩ _ ed
    simp only at ed ⊢
    rw [hc, ed]; rfl
  . rw [eb] at h
    rw [wildD, ← Bool.and_assoc, show decide (l.length ≤ 253) = decide ((l.length : Int) ≤ 253) from decide_eq_decide.2 (by omega), h]; rfl
theorem h17 : c_host_Wild.ok Tryz.prog GL 17 := con_ok (H := {}) (mkEnv_ok (gl := GL) (l := [(42, conSem c_strings_CutPrefix), (43, conSem c_strings_Contains), (25, conSem c_host_DNS)]) (q := []) (d := []) _ tyOk (by kernel_rfl) ⟨h42.call, h43.call, h25.call, trivial⟩ trivial trivial) (by kernel_rfl) (by kernel_rfl) (Eq.mp e17 k17)
def t40 : Prop :=
  ∀ (x : q6), (q88 x) -> List.length x.1 <= q103 -> (decide (q227 x) = true -> True) /\ (q244 x) /\ (q244 x) /\ (decide (q227 x) = true -> (decide (q479 x) == true) = true) /\ ((q329 x) =
  true -> True) /\ ((q329 x) = true -> (q328 x) = true /\ (q56 <= q94 /\ q94 <= (lnZ x.1)) /\ True) /\ ((q329 x) = true -> (q328 x) = true /\ True) /\ ((q329 x) = true -> (q328 x) = true) /\
  ((q327 x) = true -> True) /\ ((q327 x) = true -> ((q327 x) == true) = true /\ List.length x.1 <= q103 /\ (∀ (y : q14), (q149 y) -> y.1 = labelsD x.1 -> (decide (q94 < (lnZ y.1)) = true ->
  True) /\ (decide (q94 < (lnZ y.1)) = true -> (decide (q94 < (lnZ y.1)) == true) = true /\ (q56 <= q94 /\ q94 <= (lnZ x.1)) /\ True) /\ (decide (q94 < (lnZ y.1)) = true -> (decide (q94 <
  (lnZ y.1)) == true) = true /\ List.length (List.drop q93 x.1) <= q103 /\ (∀ (y : q4), (q67 y) -> y.1 = dnsD (List.drop q93 x.1) -> y.1 = wildD x.1) /\ True) /\ (decide (q94 < (lnZ y.1)) =
  !true -> false = wildD x.1)) /\ True) /\ ((q327 x) = !true -> false = wildD x.1)
theorem e40 : t40 = Con.vc c_r13_Wild GL (mkEnv ty [(29, conSem c_r13_Labels), (28, conSem c_r13_DNS)] [] [] [0, 2]) {} Tryz.f40.ntmps Tryz.f40.results.toList (bodyOf Tryz.f40) := by kernel_rfl
theorem k40 : t40 := by
  unfold t40
  delta q6 q88 q103 q227 q244 q479 q329 q328 q56 q94 lnZ q327 q14 q149 q93 q4 q67 wsZ q500 wbZ
  rintro ⟨l, _⟩ hx hp
  have hp : l.length ≤ 1000000000 := hp
  try dsimp +instances only [dft_int, dft_sl, dft_str]
  simp only [true_and, and_true, eq_self_iff_true, implies_true, reduceCtorEq, false_implies, true_implies, decide_eq_true_eq, decide_eq_false_iff_not, beq_self_eq_true, Bool.not_eq_true', ne_eq, Decidable.not_not, List.nil_append, List.length_singleton, List.length_cons, List.length_nil, Nat.zero_add, Nat.add_zero, Nat.mul_one, and_self, beq_iff_eq, Bool.not_true, Bool.not_false, Bool.not_eq_false', Bool.cond_false_right, Bool.and_eq_true, imp_self, Bool.not_eq_true, Bool.cond_true_left, Bool.or_eq_true]
  have hb2 : bs { data := #[42, 46] } = [42, 46] := by decide
  rw [hb2]
  have hh : hasP [42, 46] l = decide (l.take 2 = [42, 46]) := rfl
  refine ⟨fun h => ⟨h, by decide, by omega⟩, fun h => ⟨h, hp, ?_⟩, fun h => ?_⟩
  . have hy : hasP [42, 46] l = true := by rw [hh, decide_eq_true h.2]
    obtain ⟨r, rfl⟩ := hasP_iff.1 hy
    rintro ⟨W, _⟩ _ eW
    simp only at eW ⊢
    have e1 : labelsD ([42, 46] ++ r) = [42] :: labelsD r := rfl
    have e2 : ([42, 46] ++ r : List Int).drop 2 = r := rfl
    have e3 := labels_two r
    have hwd : wildD ([42, 46] ++ r) = (decide (46 ∈ r) && dnsD r) := by
      have hle : ([42, 46] ++ r : List Int).length ≤ 253 := by omega
      rw [wildD, hy, decide_eq_true hle, e2]; rfl
    rw [e1] at eW
    have hl : W.length = (labelsD r).length + 1 := by rw [eW, List.length_cons]
    rw [e2, hwd]
    simp only [List.length_append, List.length_cons, List.length_nil] at hp
    refine ⟨fun h2 => ⟨h2, by decide, by simp; omega⟩, fun h2 => ⟨h2, by omega, ?_⟩, fun h2 => ?_⟩
    . rintro ⟨d, _⟩ _ ed
      simp only at ed ⊢
      rw [decide_eq_true (e3.1 (by omega)), ed]; rfl
    . rw [decide_eq_false (fun hc => by have := e3.2 hc; omega)]; rfl
  . refine Eq.symm ?_
    cases hw : wildD l with
    | false => rfl
    | true =>
      exfalso
      obtain ⟨r, rfl, h1, h2, h3⟩ := wild_form hw
      have h4 : r.length ≠ 0 := fun e => by rw [List.eq_nil_of_length_eq_zero e] at h2; cases h2
      simp only [Bool.and_eq_false_iff, decide_eq_false_iff_not] at h
      simp only [List.length_cons] at h h1
      rcases h with (h | h) | h
      . omega
      . omega
      . exact h rfl
theorem h40 : c_r13_Wild.ok Tryz.prog GL 40 := con_ok (H := {}) (mkEnv_ok (gl := GL) (l := [(29, conSem c_r13_Labels), (28, conSem c_r13_DNS)]) (q := []) (d := []) _ tyOk (by kernel_rfl) ⟨h29.call, h28.call, trivial⟩ trivial trivial) (by kernel_rfl) (by kernel_rfl) (Eq.mp e40 k40)
def t32 : Prop :=
  ∀ (x : q6), (q88 x) -> List.length x.1 <= q103 -> (List.length x.1 < q54 /\ List.length (bs { data := #[(64 : UInt8)] }) = q59) /\ (∀ (y : q3), (q60 y) -> y.1 = (q330 x).1 /\ y.2.1 = (q330
  x).2.1 /\ y.2.2.1 = (q330 x).2.2 -> (y.2.2.1 = true -> True) /\ (y.2.2.1 = true -> (y.2.2.1 == true) = true /\ List.length y.1 <= q103 /\ (∀ (y_1 : q4), (q67 y_1) -> y_1.1 = localD y.1 ->
  (y_1.1 = true -> True) /\ (y_1.1 = true -> (y_1.1 == true) = true /\ List.length y.2.1 <= q103 /\ (∀ (y_2 : q4), (q67 y_2) -> y_2.1 = dnsD y.2.1 -> y_2.1 = emailD x.1) /\ True) /\ (y_1.1 =
  !true -> false = emailD x.1)) /\ True) /\ (y.2.2.1 = !true -> false = emailD x.1)) /\ True
theorem e32 : t32 = Con.vc c_host_Email GL (mkEnv ty [(46, conSem c_strings_Cut), (56, conSem c_host_local), (25, conSem c_host_DNS)] [] [] [0, 2, 3, 4, 5]) {} Tryz.f32.ntmps Tryz.f32.results.toList (bodyOf Tryz.f32) := by kernel_rfl
theorem k32 : t32 := by
  unfold t32
  delta q6 q88 q103 q54 q59 q3 q60 q330 q4 q67 wsZ wbZ q536 q565 q557
  rintro ⟨l, _⟩ hx hp
  have hp : l.length ≤ 1000000000 := hp
  try dsimp +instances only [dft_int, dft_sl, dft_str]
  simp only [true_and, and_true, eq_self_iff_true, implies_true, reduceCtorEq, false_implies, true_implies, decide_eq_true_eq, decide_eq_false_iff_not, beq_self_eq_true, Bool.not_eq_true', ne_eq, Decidable.not_not, List.nil_append, List.length_singleton, List.length_cons, List.length_nil, Nat.zero_add, Nat.add_zero, Nat.mul_one, and_self, beq_iff_eq, Bool.not_true, Bool.not_false, Bool.not_eq_false', Bool.cond_false_right, Bool.and_eq_true, imp_self, Bool.not_eq_true, Bool.cond_true_left, Bool.or_eq_true]
  have hb : bs { data := #[64] } = [64] := by decide
  have hd : ([64] : List Int).getD 0 0 = 64 := rfl
  rw [hb, hd]
  have hcl := cutD_len l 64
  refine ⟨⟨by omega, rfl⟩, ?_⟩
  rintro ⟨a, b, c, _⟩ _ ⟨ea, eb, ec⟩
  simp only at ea eb ec ⊢
  have he : emailD l = (c && (localD a && dnsD b)) := by rw [emailD, ea, eb, ec]
  rw [he]
  rw [← ea, ← eb] at hcl
  refine ⟨fun h => ⟨h, by omega, ?_⟩, fun h => by rw [h]; rfl⟩
  rintro ⟨u, _⟩ _ eu
  simp only at eu ⊢
  rw [h, ← eu]
  refine ⟨fun h => ⟨h, by omega, ?_⟩, fun h => by rw [h]; rfl⟩
  rintro ⟨v, _⟩ _ ev
  simp only at ev ⊢
  rw [h, ev]; rfl
theorem h32 : c_host_Email.ok Tryz.prog GL 32 := con_ok (H := {}) (mkEnv_ok (gl := GL) (l := [(46, conSem c_strings_Cut), (56, conSem c_host_local), (25, conSem c_host_DNS)]) (q := []) (d := []) _ tyOk (by kernel_rfl) ⟨h46.call, h56.call, h25.call, trivial⟩ trivial trivial) (by kernel_rfl) (by kernel_rfl) (Eq.mp e32 k32)
def t35 : Prop :=
  ∀ (x : q6), (q88 x) -> List.length x.1 <= q103 -> ∃ (I : q13), ∃ (μ : Int × Unit -> Unit -> Nat), (Value.bool false = Value.bool false /\ x.1 = x.1 /\ I (q56, ()) ()) /\ ∀ (y : q1) (z :
  Unit), (q52 y) -> True -> I y z -> (decide (y.1 < (lnZ x.1)) = true -> True) /\ (decide (y.1 < (lnZ x.1)) = true -> True) /\ (decide (y.1 < (lnZ x.1)) = true -> (decide (y.1 < (lnZ x.1)) ==
  true) = true /\ (decide (y.1 < (lnZ x.1)) == true) = true /\ (q56 <= y.1 /\ y.1 < (lnZ x.1)) /\ True) /\ (decide (y.1 < (lnZ x.1)) = true -> (decide (y.1 < (lnZ x.1)) == true) = true /\
  True) /\ (decide (y.1 < (lnZ x.1)) = true -> (decide (y.1 < (lnZ x.1)) == true) = true) /\ ((bif decide (y.1 < (lnZ x.1)) then decide (List.getD x.1 (q58 y) q56 ≠ q455) else false) = true
  -> Value.bool false = Value.bool false /\ x.1 = x.1 /\ I (wrZ (q159 y), ()) () /\ μ (wrZ (q159 y), ()) () < μ y z) /\ ((bif decide (y.1 < (lnZ x.1)) then decide (List.getD x.1 (q58 y) q56 ≠
  q455) else false) = false -> ∃ (J : Bool × Unit -> Unit -> Prop), ((decide (y.1 = (lnZ x.1)) = false -> True) /\ (decide (y.1 = (lnZ x.1)) = false -> (decide (y.1 = (lnZ x.1)) == false) =
  true /\ True) /\ (decide (y.1 = (lnZ x.1)) = false -> (decide (y.1 = (lnZ x.1)) == false) = true) /\ ((q347 y x) = false -> True) /\ ((q347 y x) = false -> ((q347 y x) == false) = true /\
  True) /\ ((q347 y x) = false -> ((q347 y x) == false) = true) /\ ((q344 y x) = false -> True) /\ ((q344 y x) = false -> (q343 y x) = true /\ (q84 x) /\ True) /\ ((q344 y x) = false -> (q343
  y x) = true /\ True) /\ ((q344 y x) = false -> (q343 y x) = true) /\ (q336 y x) /\ (q336 y x) /\ (q331 y x) /\ ((q338 y x) = false -> (q337 y x) = true /\ (q337 y x) = true /\ (q56 <= wrZ
  (y.1 - q92) /\ wrZ (y.1 - q92) < (lnZ x.1)) /\ True) /\ (q331 y x) /\ ((q338 y x) = false -> (q337 y x) = true) /\ ((q333 y x) = true -> false = emailD x.1) /\ ((q333 y x) = false ->
  Value.bool false = Value.bool false /\ y.1 = y.1 /\ x.1 = x.1 /\ J (false, ()) ())) /\ ∀ (u : q4) (z : Unit), (q67 u) -> True -> J u z -> ∃ (I : q8), ∃ (μ : q9), (Value.bool false =
  Value.bool false /\ y.1 = y.1 /\ x.1 = x.1 /\ I (q56, u.1, ()) ()) /\ ∀ (y_1 : q10) (z : Unit), (q102 y_1) -> True -> I y_1 z -> (decide (y_1.1 < y.1) = true -> (q254 y_1 x) /\ ∃ (J : Bool
  × Unit -> Unit -> Prop), (True /\ (∀ (y_2 : q4), (q67 y_2) -> y_2.1 = letterD (q305 x y_1) -> ((!y_2.1) = true -> True) /\ ((!y_2.1) = true -> ((!y_2.1) == true) = true /\ True /\ (∀ (y_3 :
  q4), (q67 y_3) -> y_3.1 = digitD (q305 x y_1) -> ((!y_3.1) = true -> True) /\ ((!y_3.1) = true -> ((!y_3.1) == true) = true /\ True) /\ ((!y_3.1) = true -> ((!y_3.1) == true) = true) /\
  ((q345 y_3 x y_1) = true -> True) /\ ((q345 y_3 x y_1) = true -> ((q345 y_3 x y_1) == true) = true /\ True) /\ ((q345 y_3 x y_1) = true -> ((q345 y_3 x y_1) == true) = true) /\ ((q340 y_3 x
  y_1) = true -> True) /\ ((q340 y_3 x y_1) = true -> (q339 y_3 x y_1) = true /\ True) /\ ((q340 y_3 x y_1) = true -> (q339 y_3 x y_1) = true) /\ ((q335 y_3 x y_1) = true -> True) /\ ((q335
  y_3 x y_1) = true -> (q334 y_3 x y_1) = true /\ True) /\ ((q335 y_3 x y_1) = true -> (q334 y_3 x y_1) = true) /\ ((q332 y_3 x y_1) = true -> false = emailD x.1) /\ ((q332 y_3 x y_1) = false
  -> List.getD x.1 (q142 y_1) q56 = List.getD x.1 (q142 y_1) q56 /\ Value.bool true = Value.bool true /\ y_1.1 = y_1.1 /\ Value.bool false = Value.bool false /\ y.1 = y.1 /\ x.1 = x.1 /\ J
  (y_1.2.1, ()) ())) /\ True) /\ ((!y_2.1) = !true -> List.getD x.1 (q142 y_1) q56 = List.getD x.1 (q142 y_1) q56 /\ Value.bool true = Value.bool true /\ y_1.1 = y_1.1 /\ Value.bool false =
  Value.bool false /\ y.1 = y.1 /\ x.1 = x.1 /\ J (y_1.2.1, ()) ())) /\ True) /\ ∀ (u : q4) (z_1 : Unit), (q67 u) -> True -> J u z_1 -> (decide (q348 x y_1) = true -> True) /\ (decide (q348 x
  y_1) = true -> True) /\ (q342 x y_1) /\ (decide (q348 x y_1) = true -> (q346 x y_1) = true /\ (q346 x y_1) = true /\ (q56 <= wrZ (q104 y_1) /\ wrZ (q104 y_1) < (lnZ x.1)) /\ True) /\ (q342
  x y_1) /\ (decide (q348 x y_1) = true -> (q346 x y_1) = true) /\ ((q341 x y_1) = true -> false = emailD x.1) /\ ((q341 x y_1) = false -> Value.bool false = Value.bool false /\ y.1 = y.1 /\
  x.1 = x.1 /\ I (wrZ (q104 y_1), u.1, ()) () /\ μ (wrZ (q104 y_1), u.1, ()) () < μ y_1 z)) /\ (decide (y_1.1 < y.1) = false -> (q56 <= wrZ (q159 y) /\ wrZ (q159 y) <= (lnZ x.1)) /\
  List.length (List.drop (Int.toNat (wrZ (q159 y))) x.1) <= q103 /\ (∀ (y_2 : q4), (q67 y_2) -> y_2.1 = dnsD (List.drop (Int.toNat (wrZ (q159 y))) x.1) -> y_2.1 = emailD x.1) /\ True))
theorem e35 : t35 = Con.vc c_r13_Email GL (mkEnv ty [(58, conSem c_r13_letter), (55, conSem c_r13_digit), (28, conSem c_r13_DNS)] [] [] [0, 2, 3, 4, 5, 15, 41, 44, 73, 82]) {joins := [6,12]} Tryz.f35.ntmps Tryz.f35.results.toList (bodyOf Tryz.f35) := by kernel_rfl
theorem k35 : t35 := by
  unfold t35
  delta q6 q88 q103 q13 q56 q1 q52 lnZ q58 q455 wrZ q159 q347 q344 q343 q84 q336 q331 q338 q337 q92 q333 q4 q67 q8 q9 q10 q102 q254 q305 q345 q340 q339 q335 q334 q332 q142 q348 q342 q346 q104 q341 wsZ wiZ q491 q452 q537 q535 wbZ q507 q538 q539 q568 q540 q565 q557
  rintro ⟨l, _⟩ hx hp
  have hp : l.length ≤ 1000000000 := hp
  try dsimp +instances only [dft_int, dft_sl, dft_str]
  simp only [true_and, and_true, eq_self_iff_true, implies_true, reduceCtorEq, false_implies, true_implies, decide_eq_true_eq, decide_eq_false_iff_not, beq_self_eq_true, Bool.not_eq_true', ne_eq, Decidable.not_not, List.nil_append, List.length_singleton, List.length_cons, List.length_nil, Nat.zero_add, Nat.add_zero, Nat.mul_one, and_self, beq_iff_eq, Bool.not_true, Bool.not_false, Bool.not_eq_false', Bool.cond_false_right, Bool.and_eq_true, imp_self, Bool.not_eq_true, Bool.cond_true_left, Bool.or_eq_true]
  refine ⟨fun y _ => 0 ≤ y.1 ∧ y.1 ≤ l.length ∧ ∀ j, j < y.1.toNat → l.getD j 0 ≠ 64, fun y _ => ((l.length : Int) - y.1).toNat, ⟨Int.le_refl 0, by simp only; omega, fun j hj => by simp at hj⟩, ?_⟩
  rintro ⟨n, _⟩ _ _ ⟨n0, n1, n2⟩
  simp only at n0 n1 n2 ⊢
  have hw1 : n < l.length → IntKind.wrap .i64 (n + 1) = n + 1 := fun _ => wrapK _ (by omega) (by omega)
  have hw2 : IntKind.wrap .i64 (n - 1) = n - 1 := wrapK _ (by omega) (by omega)
  rw [hw2]
  refine ⟨fun h => ⟨h, h, n0, h⟩, fun h => ?_, fun h => ?_⟩
  . rw [hw1 h.1]
    refine ⟨⟨by omega, by omega, fun j hj => ?_⟩, by omega⟩
    by_cases hji : j < n.toNat
    . exact n2 j hji
    . rw [show j = n.toNat by omega]; exact h.2
  have none : n = l.length → emailD l = false := fun e => email_none (fun hc => by
    obtain ⟨j, hj, hx⟩ := List.getElem_of_mem hc
    refine n2 j (by omega) ?_
    rw [List.getD_eq_getElem?_getD, List.getElem?_eq_getElem hj]
    exact hx)
  have some : n ≠ l.length → emailD l = (localD (l.take n.toNat) && dnsD (l.drop (n.toNat + 1))) := fun e => by
    have h64 : l.getD n.toNat 0 = 64 := by
      simp only [Bool.and_eq_false_iff, decide_eq_false_iff_not] at h
      rcases h with h | h
      . omega
      . exact Classical.not_not.1 h
    exact email_at (by omega) h64 n2
  have htl : n ≠ l.length → (l.take n.toNat).length = n.toNat := fun e => by rw [List.length_take]; omega
  have htg : ∀ j, j < n.toNat → (l.take n.toNat).getD j 0 = l.getD j 0 := fun j hj => getD_take l _ j hj
  have hnil : n ≠ l.length → (l.take n.toNat = [] ↔ n = 0) := fun e => ⟨fun h => by have := congrArg List.length h; rw [htl e] at this; simp at this; omega, fun h => by rw [h]; rfl⟩
  simp only [Bool.or_eq_false_iff, decide_eq_false_iff_not]
  refine ⟨fun _ _ => n ≠ l.length ∧ 1 ≤ n ∧ n ≤ 64 ∧ l.getD 0 0 ≠ 46 ∧ l.getD (n.toNat - 1) 0 ≠ 46, ⟨fun h => ⟨h, by decide, by omega⟩, fun h => ⟨h, h, by omega, by omega⟩, fun h => ?_, fun h => ⟨h.1.1.1.1, by omega, by omega, h.1.2, by rw [show n.toNat - 1 = (n - 1).toNat by omega]; exact h.2⟩⟩, ?_⟩
  . refine Eq.symm ?_
    by_cases e : n = l.length
    . exact none e
    . have hl0 : localD (l.take n.toNat) = false := by
        have key : ¬ (l.take n.toNat ≠ [] ∧ (l.take n.toNat).length ≤ 64 ∧ (l.take n.toNat).getD 0 0 ≠ 46 ∧ (l.take n.toNat).getD ((l.take n.toNat).length - 1) 0 ≠ 46) := by
          rintro ⟨k1, k2, k3, k4⟩
          rw [Ne, hnil e] at k1
          rw [htl e] at k2 k4
          rw [htg 0 (by omega)] at k3
          rw [htg _ (by omega), show n.toNat - 1 = (n - 1).toNat by omega] at k4
          omega
        rw [localD, decide_eq_false key]; rfl
      rw [some e, hl0]; rfl
  rintro ⟨b, _⟩ _ _ ⟨j1, j2, j3, j4, j5⟩
  have hE := some j1
  have hloc : localD (l.take n.toNat) = (!dotsD (l.take n.toNat) && (l.take n.toNat).all mcharD) := by
    rw [localD, decide_eq_true ⟨by rw [Ne, hnil j1]; omega, by rw [htl j1]; omega, by rw [htg 0 (by omega)]; exact j4, by rw [htl j1, htg _ (by omega)]; exact j5⟩]; rfl
  have hbad : ∀ i : Int, 0 ≤ i → i < n → mcharD (l.getD i.toNat 0) = false → false = emailD l := fun i h0 h1 hm => by
    rw [hE, hloc, all_not _ _ i.toNat (by rw [htl j1]; omega) (by rw [htg _ (by omega)]; exact hm)]
    simp
  have h64 : l.getD n.toNat 0 = 64 := by
    simp only [Bool.and_eq_false_iff, decide_eq_false_iff_not] at h
    rcases h with h | h
    . omega
    . exact Classical.not_not.1 h
  simp only
  refine ⟨fun y _ => 0 ≤ y.1 ∧ y.1 ≤ n ∧ ∀ j, j < y.1.toNat → mcharD (l.getD j 0) = true ∧ ¬ (l.getD j 0 = 46 ∧ l.getD (j + 1) 0 = 46), fun y _ => (n - y.1).toNat, ⟨Int.le_refl 0, by simp only; omega, fun j hj => by simp at hj⟩, ?_⟩
  rintro ⟨i, c, _⟩ _ _ ⟨i0, i1, i2⟩
  simp only at i0 i1 i2 ⊢
  have hw3 : IntKind.wrap .i64 (i + 1) = i + 1 := wrapK _ (by omega) (by omega)
  rw [hw3, hw1 (by omega)]
  refine ⟨fun hlt => ⟨⟨i0, by omega⟩, fun _ _ => mcharD (l.getD i.toNat 0) = true, ?_, ?_⟩, fun hge => ⟨⟨by omega, by omega⟩, by simp; omega, ?_⟩⟩
  . rintro ⟨d, _⟩ _ ed
    simp only at ed ⊢
    refine ⟨fun h => ⟨h, ?_⟩, fun h => by rw [mcharD, ← ed, h]; rfl⟩
    rintro ⟨e, _⟩ _ ee
    simp only at ee ⊢
    refine ⟨fun h2 => hbad i i0 hlt ?_, fun h2 => ?_⟩
    . rw [mcharD, ← ed, h, ← ee, h2.1.1.1.1, decide_eq_false (by omega)]; rfl
    . rw [mcharD, ← ed, h, ← ee]
      cases e with
      | true => rfl
      | false =>
        simp only [Bool.not_false, Bool.true_and, Bool.and_eq_false_iff, decide_eq_false_iff_not] at h2
        rw [decide_eq_true (by omega)]; rfl
  . rintro ⟨d, _⟩ _ _ hJ
    have hJ : mcharD (l.getD i.toNat 0) = true := hJ
    try simp only
    have e1 : (i + 1).toNat = i.toNat + 1 := by omega
    rw [e1]
    refine ⟨fun h => ⟨h, h, by omega, by omega⟩, fun h => ?_, fun h => ⟨⟨by omega, by omega, fun j hj => ?_⟩, by omega⟩⟩
    . have hin : i.toNat + 1 < n.toNat := by
        by_cases e : i.toNat + 1 = n.toNat
        . rw [e, h64] at h; omega
        . omega
      have hd : dotsD (l.take n.toNat) = true := (dots_iff _).2 ⟨i.toNat, by rw [htl j1]; omega, by rw [htg _ (by omega)]; exact h.1, by rw [htg _ hin]; exact h.2⟩
      rw [hE, hloc, hd]; rfl
    . by_cases hji : j < i.toNat
      . exact i2 j hji
      . rw [show j = i.toNat by omega]
        simp only [Bool.and_eq_false_iff, decide_eq_false_iff_not] at h
        exact ⟨hJ, by omega⟩
  . rintro ⟨d, _⟩ _ ed
    simp only at ed ⊢
    have hin : i = n := by omega
    subst hin
    have ha : (l.take i.toNat).all mcharD = true := all_get _ _ (fun j hj => by
      rw [htl j1] at hj
      rw [htg _ hj]
      exact (i2 j hj).1)
    have hd : dotsD (l.take i.toNat) = false := by
      cases hd : dotsD (l.take i.toNat) with
      | false => rfl
      | true =>
        obtain ⟨j, q1, q2, q3⟩ := (dots_iff _).1 hd
        rw [htl j1] at q1
        rw [htg _ (by omega)] at q2
        rw [htg _ q1] at q3
        exact absurd ⟨q2, q3⟩ (i2 j (by omega)).2
    rw [hE, hloc, ha, hd, ed, show (i + 1).toNat = i.toNat + 1 by omega]; rfl
theorem h35 : c_r13_Email.ok Tryz.prog GL 35 := con_ok (H := {joins := [6,12]}) (mkEnv_ok (gl := GL) (l := [(58, conSem c_r13_letter), (55, conSem c_r13_digit), (28, conSem c_r13_DNS)]) (q := []) (d := []) _ tyOk (by kernel_rfl) ⟨h58.call, h55.call, h28.call, trivial⟩ trivial trivial) (by kernel_rfl) (by kernel_rfl) (Eq.mp e35 k35)
def t74 : Prop :=
  ∀ (x : q6), (q88 x) -> True -> (decide (q492 x) = false -> True) /\ (q349 x) /\ (q349 x) /\ (decide (q492 x) = false -> (decide (q492 x) == false) = true) /\ (bif decide (q492 x) then true
  else decide ((lnZ x.1) = (16 : Int))) = ipD x.1
theorem e74 : t74 = Con.vc c_host_IP GL (mkEnv ty [] [] [] [0, 2]) {} Tryz.f74.ntmps Tryz.f74.results.toList (bodyOf Tryz.f74) := by kernel_rfl
theorem k74 : t74 := by
  unfold t74
  delta q6 q88 q492 q349 lnZ wsZ
  rintro ⟨l, _⟩ hx hp
  try dsimp +instances only [dft_int, dft_sl, dft_str]
  simp only [true_and, and_true, eq_self_iff_true, implies_true, reduceCtorEq, false_implies, true_implies, decide_eq_true_eq, decide_eq_false_iff_not, beq_self_eq_true, Bool.not_eq_true', ne_eq, Decidable.not_not, List.nil_append, List.length_singleton, List.length_cons, List.length_nil, Nat.zero_add, Nat.add_zero, Nat.mul_one, and_self, beq_iff_eq, Bool.not_true, Bool.not_false, Bool.not_eq_false', Bool.cond_false_right, Bool.and_eq_true, imp_self, Bool.not_eq_true, Bool.cond_true_left, Bool.or_eq_true]
  rw [Bool.eq_iff_iff, ipD]
  simp only [Bool.or_eq_true, decide_eq_true_eq]
  omega
theorem h74 : c_host_IP.ok Tryz.prog GL 74 := con_ok (H := {}) (mkEnv_ok (gl := GL) (l := []) (q := []) (d := []) _ tyOk (by kernel_rfl) trivial trivial trivial) (by kernel_rfl) (by kernel_rfl) (Eq.mp e74 k74)
def t66 : Prop :=
  ∀ (x : q6), (q88 x) -> True -> (decide (q492 x) = false -> True) /\ (q349 x) /\ (q349 x) /\ (decide (q492 x) = false -> (decide (q492 x) == false) = true) /\ (bif decide (q492 x) then true
  else decide ((lnZ x.1) = (16 : Int))) = ipD x.1
theorem e66 : t66 = Con.vc c_r13_IP GL (mkEnv ty [] [] [] [0, 2]) {} Tryz.f66.ntmps Tryz.f66.results.toList (bodyOf Tryz.f66) := by kernel_rfl
theorem k66 : t66 := by
  unfold t66
  delta q6 q88 q492 q349 lnZ wsZ
  rintro ⟨l, _⟩ hx hp
  try dsimp +instances only [dft_int, dft_sl, dft_str]
  simp only [true_and, and_true, eq_self_iff_true, implies_true, reduceCtorEq, false_implies, true_implies, decide_eq_true_eq, decide_eq_false_iff_not, beq_self_eq_true, Bool.not_eq_true', ne_eq, Decidable.not_not, List.nil_append, List.length_singleton, List.length_cons, List.length_nil, Nat.zero_add, Nat.add_zero, Nat.mul_one, and_self, beq_iff_eq, Bool.not_true, Bool.not_false, Bool.not_eq_false', Bool.cond_false_right, Bool.and_eq_true, imp_self, Bool.not_eq_true, Bool.cond_true_left, Bool.or_eq_true]
  rw [Bool.eq_iff_iff, ipD]
  simp only [Bool.or_eq_true, decide_eq_true_eq]
  omega
theorem h66 : c_r13_IP.ok Tryz.prog GL 66 := con_ok (H := {}) (mkEnv_ok (gl := GL) (l := []) (q := []) (d := []) _ tyOk (by kernel_rfl) trivial trivial trivial) (by kernel_rfl) (by kernel_rfl) (Eq.mp e66 k66)
end Go.Proofs.YtgnlcpoeepfdoaaGreatDoor
end
section
namespace Go.Proofs.YtgnlcpoeepfdoaaGreatDoor
open Go Go.Vc Go.Pl Go.Proofs
def c_host_small : Con := { args := [.dat .str], res := [.dat .str], pre := fun x => x.1.length ≤ 1000000000, post := fun x y => y.1 = lowD x.1 }
def c_r13_Small : Con := { args := [.dat .str], res := [.dat .str], pre := fun x => x.1.length ≤ 1000000000, post := fun x y => y.1 = lowD x.1 }
def c_host_Match : Con := { args := [.dat .str, .dat .str], res := [.dat .bool], pre := fun x => x.1.length ≤ 1000000000 ∧ x.2.1.length ≤ 1000000000, post := fun x y => y.1 = matchD x.1 x.2.1 }
def c_r13_Match : Con := { args := [.dat .str, .dat .str], res := [.dat .bool], pre := fun x => x.1.length ≤ 1000000000 ∧ x.2.1.length ≤ 1000000000, post := fun x y => y.1 = matchD x.1 x.2.1 }
end Go.Proofs.YtgnlcpoeepfdoaaGreatDoor
end
section
namespace Go.Proofs.YtgnlcpoeepfdoaaGreatDoor
open Go Go.Vc Go.Pl Go.Proofs
set_option linter.unusedVariables false
set_option linter.unusedSimpArgs false
abbrev q350 (p0 : q6) (p1 : q1) := (bif decide (q555 <= List.getD p0.1 (Int.toNat p1.1) q501) then decide (List.getD p0.1 (Int.toNat p1.1) q501 <= (90 : Int)) else false)
abbrev q351 (p0 : q6) (p1 : q1) := (IntKind.wrap IntKind.u8 (IntKind.wrap IntKind.u8 (List.getD p0.1 (Int.toNat p1.1) q501 + (97 : Int)) - q555))
abbrev q352 (p0 : q6) (p1 : q1) := (q555 <= List.getD p0.1 (Int.toNat p1.1) q501)
abbrev q353 (p0 : q6) (p1 : q1) := (bif decide (q555 <= List.getD p0.1 (Int.toNat p1.1) q452) then decide (List.getD p0.1 (Int.toNat p1.1) q452 <= (90 : Int)) else false)
abbrev q354 (p0 : q6) (p1 : q1) := (q555 <= List.getD p0.1 (Int.toNat p1.1) q452)
abbrev q355 (p0 : q6) (p1 : q1) := (List.getD p0.1 (Int.toNat p1.1) q452 + (32 : Int))
abbrev q356 (p0 : q4) (p1 : q2) := (p0.1 = true -> List.length p1.1 <= (1000000000 : Nat) /\ (∀ (y : q6), (wsZ y.1 /\ True) -> y.1 = lowD p1.1 -> List.length p1.2.1 <= (1000000000 : Nat) /\
  (∀ (y_1 : q6), (wsZ y_1.1 /\ True) -> y_1.1 = lowD p1.2.1 -> decide (y.1 = y_1.1) = matchD p1.1 p1.2.1) /\ True) /\ True)
def t45 : Prop :=
  ∀ (x : q6), (q88 x) -> List.length x.1 <= q103 -> ∃ (I : q18), ∃ (μ : q19), ((lnZ x.1) = (lnZ x.1) /\ bs { data := #[] } = bs { data := #[] } /\ x.1 = x.1 /\ I (q56, ()) (x.1, ())) /\ ∀ (y
  : q1) (z : q6), (q52 y) -> (q165 z) -> I y z -> (decide (y.1 < (lnZ x.1)) = true -> (q56 <= y.1 /\ y.1 < (lnZ z.1)) /\ (decide (q352 z y) = true -> True) /\ (decide (q352 z y) = true ->
  (decide (q352 z y) == true) = true /\ True) /\ (decide (q352 z y) = true -> (decide (q352 z y) == true) = true) /\ ((q350 z y) = true -> (q56 <= y.1 /\ y.1 < (lnZ z.1)) /\ (lnZ x.1) = (lnZ
  x.1) /\ bs { data := #[] } = bs { data := #[] } /\ x.1 = x.1 /\ I (wrZ (q159 y), ()) (List.set z.1 (q58 y) (q351 z y), ()) /\ μ (wrZ (q159 y), ()) (List.set z.1 (q58 y) (q351 z y), ()) < μ
  y z) /\ ((q350 z y) = false -> (lnZ x.1) = (lnZ x.1) /\ bs { data := #[] } = bs { data := #[] } /\ x.1 = x.1 /\ I (wrZ (q159 y), ()) (z.1, ()) /\ μ (wrZ (q159 y), ()) (z.1, ()) < μ y z)) /\
  (decide (y.1 < (lnZ x.1)) = false -> z.1 = lowD x.1)
theorem e45 : t45 = Con.vc c_host_small GL (mkEnvO ty [] [] [] [0, 2, 3, 4, 5, 8, 9, 10, 11, 20] [7]) {} Tryz.f45.ntmps Tryz.f45.results.toList (bodyOf Tryz.f45) := by kernel_rfl
theorem k45 : t45 := by
  unfold t45
  delta q6 q88 q103 q18 q19 lnZ q56 q1 q52 q165 q352 q350 wrZ q159 q58 q351 wsZ wiZ wyZ q555 q501 q491 q553
  rintro ⟨l, _⟩ hx hp
  have hp : l.length ≤ 1000000000 := hp
  try dsimp +instances only [dft_int, dft_sl, dft_str]
  simp only [true_and, and_true, eq_self_iff_true, implies_true, reduceCtorEq, false_implies, true_implies, decide_eq_true_eq, decide_eq_false_iff_not, beq_self_eq_true, Bool.not_eq_true', ne_eq, Decidable.not_not, List.nil_append, List.length_singleton, List.length_cons, List.length_nil, Nat.zero_add, Nat.add_zero, Nat.mul_one, and_self, beq_iff_eq, Bool.not_true, Bool.not_false, Bool.not_eq_false', Bool.cond_false_right, Bool.and_eq_true, imp_self, Bool.not_eq_true, Bool.cond_true_left, Bool.or_eq_true]
  refine ⟨fun y z => 0 ≤ y.1 ∧ y.1 ≤ l.length ∧ z.1 = lowD (l.take y.1.toNat) ++ l.drop y.1.toNat, fun y _ => ((l.length : Int) - y.1).toNat, ⟨Int.le_refl 0, by simp only; omega, rfl⟩, ?_⟩
  rintro ⟨i, _⟩ ⟨z, _⟩ _ _ ⟨i0, i1, ez⟩
  simp only at i0 i1 ez ⊢
  have hw1 : IntKind.wrap .i64 (i + 1) = i + 1 := wrapK _ (by omega) (by omega)
  have hzl : (lowD (l.take i.toNat)).length = i.toNat := by rw [low_len, List.length_take]; omega
  have hll : z.length = l.length := by rw [ez, List.length_append, hzl, List.length_drop]; omega
  rw [hw1]
  have e1 : (i + 1).toNat = i.toNat + 1 := by omega
  have hg : z.getD i.toNat 0 = l.getD i.toNat 0 := by
    have := getD_append_right (lowD (l.take i.toNat)) (l.drop i.toNat) 0
    rw [hzl, Nat.add_zero] at this
    rw [ez, this, getD_drop, Nat.add_zero]
  have step : i < l.length → lowD (l.take (i + 1).toNat) = lowD (l.take i.toNat) ++ [smallD (l.getD i.toNat 0)] := fun hlt => by
    rw [e1, take_snoc l i.toNat (by omega)]
    simp [lowD]
  rw [hg]
  refine ⟨fun hlt => ⟨⟨i0, by omega⟩, fun h => ⟨⟨i0, by omega⟩, ⟨by omega, by omega, ?_⟩, by omega⟩, fun h => ⟨⟨by omega, by omega, ?_⟩, by omega⟩⟩, fun hge => ?_⟩
  . have w1 : IntKind.wrap .u8 (l.getD i.toNat 0 + 97) = l.getD i.toNat 0 + 97 := wrap8 _ (by omega) (by omega)
    rw [w1, wrap8 (l.getD i.toNat 0 + 97 - 65) (by omega) (by omega), step hlt, smallD, if_pos h, ez, drop_cons l i.toNat (by omega)]
    have e2 : (lowD (l.take i.toNat) ++ l.getD i.toNat 0 :: l.drop (i.toNat + 1)).set i.toNat (l.getD i.toNat 0 + 97 - 65) = lowD (l.take i.toNat) ++ (l.getD i.toNat 0 + 97 - 65) :: l.drop (i.toNat + 1) := by
      rw [List.set_append_right _ _ (by omega), hzl, Nat.sub_self]; rfl
    rw [e2, e1, List.append_assoc, show l.getD i.toNat 0 + 97 - 65 = l.getD i.toNat 0 + 32 by omega]
    rfl
  . simp only [Bool.and_eq_false_iff, decide_eq_false_iff_not] at h
    rw [step hlt, smallD, if_neg (by omega), ez, drop_cons l i.toNat (by omega), e1, List.append_assoc]
    rfl
  . rw [ez, List.take_of_length_le (by omega), List.drop_of_length_le (by omega), List.append_nil]
theorem h45 : c_host_small.ok Tryz.prog GL 45 := conO_ok (H := {}) (mkEnvO_ok (gl := GL) (l := []) (q := []) (d := []) _ [7] tyOk (by kernel_rfl) trivial trivial trivial) (by kernel_rfl) (by kernel_rfl) (Eq.mp e45 k45)
def t30 : Prop :=
  ∀ (x : q6), (q88 x) -> List.length x.1 <= q103 -> ∃ (I : q18), ∃ (μ : q19), (bs { data := #[] } = bs { data := #[] } /\ x.1 = x.1 /\ I (q56, ()) ([], ())) /\ ∀ (y : q1) (z : q6), (q52 y) ->
  (q165 z) -> I y z -> (decide (y.1 < (lnZ x.1)) = true -> (q56 <= y.1 /\ y.1 < (lnZ x.1)) /\ (decide (q354 x y) = true -> True) /\ (decide (q354 x y) = true -> (decide (q354 x y) == true) =
  true /\ True) /\ (decide (q354 x y) = true -> (decide (q354 x y) == true) = true) /\ ((q353 x y) = true -> q91 < q59 /\ (List.length z.1 + List.length [IntKind.wrap IntKind.u8 (q355 x y)])
  * q59 <= q152 /\ List.length z.1 + List.length [IntKind.wrap IntKind.u8 (q355 x y)] <= q151 /\ bs { data := #[] } = bs { data := #[] } /\ x.1 = x.1 /\ I (wrZ (q159 y), ()) (z.1 ++
  [IntKind.wrap IntKind.u8 (q355 x y)], ()) /\ μ (wrZ (q159 y), ()) (z.1 ++ [IntKind.wrap IntKind.u8 (q355 x y)], ()) < μ y z) /\ ((q353 x y) = false -> q91 < q59 /\ (List.length z.1 +
  List.length [List.getD x.1 (q58 y) q56]) * q59 <= q152 /\ List.length z.1 + List.length [List.getD x.1 (q58 y) q56] <= q151 /\ bs { data := #[] } = bs { data := #[] } /\ x.1 = x.1 /\ I (wrZ
  (q159 y), ()) (z.1 ++ [List.getD x.1 (q58 y) q56], ()) /\ μ (wrZ (q159 y), ()) (z.1 ++ [List.getD x.1 (q58 y) q56], ()) < μ y z)) /\ (decide (y.1 < (lnZ x.1)) = false -> z.1 = lowD x.1)
theorem e30 : t30 = Con.vc c_r13_Small GL (mkEnv ty [] [] [] [0, 2, 3, 4, 5, 9, 20]) {} Tryz.f30.ntmps Tryz.f30.results.toList (bodyOf Tryz.f30) := by kernel_rfl
theorem k30 : t30 := by
  unfold t30
  delta q6 q88 q103 q18 q19 q56 q1 q52 q165 lnZ q354 q353 q91 q59 q355 q152 q151 wrZ q159 q58 wsZ wiZ wyZ q555 q452 q491
  rintro ⟨l, _⟩ hx hp
  have hp : l.length ≤ 1000000000 := hp
  try dsimp +instances only [dft_int, dft_sl, dft_str]
  simp only [true_and, and_true, eq_self_iff_true, implies_true, reduceCtorEq, false_implies, true_implies, decide_eq_true_eq, decide_eq_false_iff_not, beq_self_eq_true, Bool.not_eq_true', ne_eq, Decidable.not_not, List.nil_append, List.length_singleton, List.length_cons, List.length_nil, Nat.zero_add, Nat.add_zero, Nat.mul_one, and_self, beq_iff_eq, Bool.not_true, Bool.not_false, Bool.not_eq_false', Bool.cond_false_right, Bool.and_eq_true, imp_self, Bool.not_eq_true, Bool.cond_true_left, Bool.or_eq_true]
  refine ⟨fun y z => 0 ≤ y.1 ∧ y.1 ≤ l.length ∧ z.1 = lowD (l.take y.1.toNat), fun y _ => ((l.length : Int) - y.1).toNat, ⟨Int.le_refl 0, by simp only; omega, rfl⟩, ?_⟩
  rintro ⟨i, _⟩ ⟨z, _⟩ _ _ ⟨i0, i1, ez⟩
  simp only at i0 i1 ez ⊢
  have hw1 : IntKind.wrap .i64 (i + 1) = i + 1 := wrapK _ (by omega) (by omega)
  have hzl : z.length = i.toNat := by rw [ez, low_len, List.length_take]; omega
  rw [hw1]
  have step : i < l.length → ∀ c, c = smallD (l.getD i.toNat 0) → z ++ [c] = lowD (l.take (i + 1).toNat) := fun hlt c hc => by
    rw [show (i + 1).toNat = i.toNat + 1 by omega, take_snoc l i.toNat (by omega), ez, hc]
    simp [lowD]
  refine ⟨fun hlt => ⟨⟨i0, hlt⟩, fun h => ⟨by decide, by omega, by omega, ⟨by omega, by omega, step hlt _ ?_⟩, by omega⟩, fun h => ⟨by decide, by omega, by omega, ⟨by omega, by omega, step hlt _ ?_⟩, by omega⟩⟩, fun hge => by rw [ez, List.take_of_length_le (by omega)]⟩
  . rw [smallD, if_pos h, wrap8 _ (by omega) (by omega)]
  . simp only [Bool.and_eq_false_iff, decide_eq_false_iff_not] at h
    rw [smallD, if_neg (by omega)]
theorem h30 : c_r13_Small.ok Tryz.prog GL 30 := con_ok (H := {}) (mkEnv_ok (gl := GL) (l := []) (q := []) (d := []) _ tyOk (by kernel_rfl) trivial trivial trivial) (by kernel_rfl) (by kernel_rfl) (Eq.mp e30 k30)
def t19 : Prop :=
  ∀ (x : q2), (q53 x) -> List.length x.1 <= q103 /\ List.length x.2.1 <= q103 -> List.length x.2.1 <= q103 /\ (∀ (y : q4), (q67 y) -> y.1 = dnsD x.2.1 -> ((!y.1) = true -> false = matchD x.1
  x.2.1) /\ ((!y.1) = false -> List.length x.1 <= q103 /\ (∀ (y : q4), (q67 y) -> y.1 = dnsD x.1 -> (q356 y x) /\ (y.1 = false -> List.length x.1 <= q103 /\ (∀ (y : q4), (q67 y) -> y.1 =
  wildD x.1 -> ((!y.1) = true -> false = matchD x.1 x.2.1) /\ ((!y.1) = false -> List.length x.2.1 <= q103 /\ (∀ (y : q6), (q88 y) -> y.1 = lowD x.2.1 -> (List.length y.1 < q54 /\ List.length
  q322 = q59) /\ (∀ (y_1 : q3), (q60 y_1) -> y_1.1 = (q321 y).1 /\ y_1.2.1 = (q321 y).2.1 /\ y_1.2.2.1 = (q321 y).2.2 -> (y_1.2.2.1 = true -> True) /\ (y_1.2.2.1 = true -> True) /\ (y_1.2.2.1
  = true -> (y_1.2.2.1 == true) = true /\ (q56 <= q94 /\ q94 <= (lnZ x.1)) /\ True) /\ (y_1.2.2.1 = true -> (y_1.2.2.1 == true) = true /\ List.length (List.drop q93 x.1) <= q103 /\ (∀ (y :
  q6), (q88 y) -> y.1 = lowD (List.drop q93 x.1) -> (y_1.2.2.1 == true) = true /\ decide (y_1.2.1 = y.1) = matchD x.1 x.2.1) /\ True) /\ (y_1.2.2.1 = !true -> false = matchD x.1 x.2.1)) /\
  True) /\ True)) /\ True)) /\ True)) /\ True
theorem e19 : t19 = Con.vc c_host_Match GL (mkEnv ty [(25, conSem c_host_DNS), (45, conSem c_host_small), (17, conSem c_host_Wild), (46, conSem c_strings_Cut)] [] [] [0, 1, 4, 6, 7, 8, 12, 20]) {} Tryz.f19.ntmps Tryz.f19.results.toList (bodyOf Tryz.f19) := by kernel_rfl
theorem k19 : t19 := by
  unfold t19
  delta q2 q53 q103 q4 q67 q356 q6 q88 q54 q322 q59 q3 q60 q321 q56 q94 lnZ q93 wsZ wbZ q477 q452
  rintro ⟨l, m, _⟩ hx hp
  obtain ⟨h1, h2⟩ := hp
  simp only at h1 h2
  try dsimp +instances only [dft_int, dft_sl, dft_str]
  simp only [true_and, and_true, eq_self_iff_true, implies_true, reduceCtorEq, false_implies, true_implies, decide_eq_true_eq, decide_eq_false_iff_not, beq_self_eq_true, Bool.not_eq_true', ne_eq, Decidable.not_not, List.nil_append, List.length_singleton, List.length_cons, List.length_nil, Nat.zero_add, Nat.add_zero, Nat.mul_one, and_self, beq_iff_eq, Bool.not_true, Bool.not_false, Bool.not_eq_false', Bool.cond_false_right, Bool.and_eq_true, imp_self, Bool.not_eq_true, Bool.cond_true_left, Bool.or_eq_true]
  have hb : bs { data := #[46] } = [46] := by decide
  have hd : ([46] : List Int).getD 0 0 = 46 := rfl
  rw [hb, hd]
  refine ⟨h2, ?_⟩
  rintro ⟨a, _⟩ _ ea
  simp only at ea ⊢
  rw [matchD, ← ea]
  refine ⟨fun h => by rw [h]; rfl, fun h => ⟨h1, ?_⟩⟩
  rintro ⟨b, _⟩ _ eb
  simp only at eb ⊢
  rw [h, ← eb]
  refine ⟨fun h => ⟨h1, ?_⟩, fun h => ⟨h1, ?_⟩⟩
  . rintro ⟨c, _⟩ _ ec
    refine ⟨h2, ?_⟩
    rintro ⟨d, _⟩ _ ed
    simp only at ec ed ⊢
    rw [ec, ed, h]; rfl
  . rintro ⟨c, _⟩ _ ec
    simp only at ec ⊢
    rw [h, ← ec]
    refine ⟨fun h => by rw [h]; rfl, fun h => ⟨h2, ?_⟩⟩
    rintro ⟨d, _⟩ _ ed
    simp only at ed ⊢
    subst ed
    have hll := low_len m
    refine ⟨⟨by omega, rfl⟩, ?_⟩
    rintro ⟨u, v, w, _⟩ _ ⟨eu, ev, ew⟩
    simp only at eu ev ew ⊢
    rw [h, ← ev, ← ew]
    obtain ⟨r, rfl, _⟩ := wild_form (ec.symm.trans h)
    refine ⟨fun h => ⟨h, by decide, by simp; omega⟩, fun h => ⟨h, by simp at *; omega, ?_⟩, fun h => by rw [h]; rfl⟩
    rintro ⟨x, _⟩ _ ex
    simp only at ex ⊢
    rw [h, ex]
    exact ⟨rfl, rfl⟩
theorem h19 : c_host_Match.ok Tryz.prog GL 19 := con_ok (H := {}) (mkEnv_ok (gl := GL) (l := [(25, conSem c_host_DNS), (45, conSem c_host_small), (17, conSem c_host_Wild), (46, conSem c_strings_Cut)]) (q := []) (d := []) _ tyOk (by kernel_rfl) ⟨h25.call, h45.call, h17.call, h46.call, trivial⟩ trivial trivial) (by kernel_rfl) (by kernel_rfl) (Eq.mp e19 k19)
def t68 : Prop :=
  ∀ (x : q2), (q53 x) -> List.length x.1 <= q103 /\ List.length x.2.1 <= q103 -> List.length x.2.1 <= q103 /\ (∀ (y : q4), (q67 y) -> y.1 = dnsD x.2.1 -> ((!y.1) = true -> false = matchD x.1
  x.2.1) /\ ((!y.1) = false -> List.length x.1 <= q103 /\ (∀ (y : q4), (q67 y) -> y.1 = dnsD x.1 -> (q356 y x) /\ (y.1 = false -> List.length x.1 <= q103 /\ (∀ (y : q4), (q67 y) -> y.1 =
  wildD x.1 -> ((!y.1) = true -> false = matchD x.1 x.2.1) /\ ((!y.1) = false -> List.length x.1 <= q103 /\ (∀ (y : q6), (q88 y) -> y.1 = lowD x.1 -> List.length y.1 <= q103 /\ (∀ (y_1 :
  q14), (q149 y_1) -> y_1.1 = labelsD y.1 -> List.length x.2.1 <= q103 /\ (∀ (y : q6), (q88 y) -> y.1 = lowD x.2.1 -> List.length y.1 <= q103 /\ (∀ (y_2 : q14), (q149 y_2) -> y_2.1 = labelsD
  y.1 -> (decide ((lnZ y_1.1) ≠ (lnZ y_2.1)) = true -> false = matchD x.1 x.2.1) /\ (decide ((lnZ y_1.1) ≠ (lnZ y_2.1)) = false -> ∃ (I : q8), ∃ (μ : q9), (Value.bool false = Value.bool false
  /\ Value.bool false = Value.bool false /\ Value.bool false = Value.bool false /\ Value.bool false = Value.bool false /\ x.1 = x.1 /\ x.2.1 = x.2.1 /\ y_1.1 = y_1.1 /\ y_2.1 = y_2.1 /\ I
  (q92, false, ()) ()) /\ ∀ (y : q10) (z : Unit), (q102 y) -> True -> I y z -> (decide (y.1 < (lnZ y_1.1)) = true -> (q56 <= y.1 /\ y.1 < (lnZ y_1.1)) /\ (q56 <= y.1 /\ y.1 < (lnZ y_2.1)) /\
  (decide (List.getD y_1.1 (q142 y) q193 ≠ List.getD y_2.1 (q142 y) q193) = true -> false = matchD x.1 x.2.1) /\ (decide (List.getD y_1.1 (q142 y) q193 ≠ List.getD y_2.1 (q142 y) q193) =
  false -> Value.bool false = Value.bool false /\ Value.bool false = Value.bool false /\ Value.bool false = Value.bool false /\ Value.bool false = Value.bool false /\ x.1 = x.1 /\ x.2.1 =
  x.2.1 /\ y_1.1 = y_1.1 /\ y_2.1 = y_2.1 /\ I (wrZ (q104 y), y.2.1, ()) () /\ μ (wrZ (q104 y), y.2.1, ()) () < μ y z)) /\ (decide (y.1 < (lnZ y_1.1)) = false -> true = matchD x.1 x.2.1))) /\
  True) /\ True) /\ True) /\ True)) /\ True)) /\ True)) /\ True
theorem e68 : t68 = Con.vc c_r13_Match GL (mkEnv ty [(28, conSem c_r13_DNS), (30, conSem c_r13_Small), (40, conSem c_r13_Wild), (29, conSem c_r13_Labels)] [] [] [0, 1, 4, 5, 6, 7, 10, 12, 20, 31, 35, 46]) {} Tryz.f68.ntmps Tryz.f68.results.toList (bodyOf Tryz.f68) := by kernel_rfl
theorem k68 : t68 := by
  unfold t68
  delta q2 q53 q103 q4 q67 q356 q6 q88 q14 q149 lnZ q8 q9 q92 q10 q102 q56 q142 q193 wrZ q104 wsZ wbZ wiZ q491
  rintro ⟨l, m, _⟩ hx hp
  obtain ⟨h1, h2⟩ := hp
  simp only at h1 h2
  try dsimp +instances only [dft_int, dft_sl, dft_str]
  simp only [true_and, and_true, eq_self_iff_true, implies_true, reduceCtorEq, false_implies, true_implies, decide_eq_true_eq, decide_eq_false_iff_not, beq_self_eq_true, Bool.not_eq_true', ne_eq, Decidable.not_not, List.nil_append, List.length_singleton, List.length_cons, List.length_nil, Nat.zero_add, Nat.add_zero, Nat.mul_one, and_self, beq_iff_eq, Bool.not_true, Bool.not_false, Bool.not_eq_false', Bool.cond_false_right, Bool.and_eq_true, imp_self, Bool.not_eq_true, Bool.cond_true_left, Bool.or_eq_true]
  refine ⟨h2, ?_⟩
  rintro ⟨a, _⟩ _ ea
  simp only at ea ⊢
  have hM : matchD l m = (dnsD m && (if dnsD l then decide (lowD l = lowD m) else wildD l && ((cutD 46 (lowD m)).2.2 && decide ((cutD 46 (lowD m)).2.1 = lowD (l.drop 2))))) := rfl
  rw [← ea] at hM
  refine ⟨fun h => by rw [hM, h]; rfl, fun h => ⟨h1, ?_⟩⟩
  rw [h] at hM
  rintro ⟨b, _⟩ _ eb
  simp only at eb ⊢
  rw [← eb] at hM
  refine ⟨fun h => ⟨h1, ?_⟩, fun h => ⟨h1, ?_⟩⟩
  . rw [h] at hM
    rintro ⟨c, _⟩ _ ec
    refine ⟨h2, ?_⟩
    rintro ⟨d, _⟩ _ ed
    simp only at ec ed ⊢
    rw [ec, ed, hM]; rfl
  . rw [h] at hM
    rintro ⟨c, _⟩ _ ec
    simp only at ec ⊢
    rw [← ec] at hM
    refine ⟨fun h => by rw [hM, h]; rfl, fun h => ⟨h1, ?_⟩⟩
    rw [h] at hM
    have hdoc := match_doc (s := m) (ec.symm.trans h)
    have hM : matchD l m = ((cutD 46 (lowD m)).2.2 && decide ((cutD 46 (lowD m)).2.1 = lowD (l.drop 2))) := hM
    rw [← hM] at hdoc
    rintro ⟨d, _⟩ _ ed
    simp only at ed ⊢
    have hll := low_len l
    have hlm := low_len m
    refine ⟨by rw [ed]; omega, ?_⟩
    rintro ⟨V, _⟩ _ eV
    refine ⟨h2, ?_⟩
    rintro ⟨e, _⟩ _ ee
    simp only at ee eV ⊢
    refine ⟨by rw [ee]; omega, ?_⟩
    rintro ⟨W, _⟩ _ eW
    simp only at eW ⊢
    rw [ed] at eV
    rw [ee] at eW
    rw [← eV, ← eW] at hdoc
    have hVl := labels_len (lowD l)
    rw [← eV] at hVl
    have hno : ¬ (V.length = W.length ∧ V.drop 1 = W.drop 1) → false = matchD l m := fun hn => by
      cases hmm : matchD l m with
      | false => rfl
      | true => exact absurd (hdoc.2 hmm) hn
    refine ⟨fun h => hno (fun hh => h (by rw [hh.1])), fun h => ?_⟩
    have hlen : V.length = W.length := by omega
    refine ⟨fun y _ => 1 ≤ y.1 ∧ y.1 ≤ V.length ∧ ∀ j, 1 ≤ j → j < y.1.toNat → V.getD j [] = W.getD j [], fun y _ => ((V.length : Int) - y.1).toNat, ⟨by decide, by simp only; omega, fun j hj hj2 => by simp at hj2; omega⟩, ?_⟩
    rintro ⟨i, b2, _⟩ z _ ⟨i0, i1, i2⟩
    simp only at i0 i1 i2 ⊢
    have hw1 : IntKind.wrap .i64 (i + 1) = i + 1 := wrapK _ (by omega) (by omega)
    rw [hw1]
    refine ⟨fun hlt => ⟨⟨by omega, hlt⟩, ⟨by omega, by omega⟩, fun hne => hno (fun hh => hne ?_), fun he => ⟨⟨by omega, by omega, fun j hj hj2 => ?_⟩, by omega⟩⟩, fun hge => (hdoc.1 ⟨hlen, ?_⟩).symm⟩
    . have := congrArg (fun x => x.getD (i.toNat - 1) []) hh.2
      simp only [List.getD_eq_getElem?_getD, List.getElem?_drop] at this ⊢
      rw [show 1 + (i.toNat - 1) = i.toNat by omega] at this
      exact this
    . by_cases hji : j < i.toNat
      . exact i2 j hj hji
      . rw [show j = i.toNat by omega]; exact he
    . apply List.ext_getElem?
      intro j
      rw [List.getElem?_drop, List.getElem?_drop]
      by_cases hj : 1 + j < V.length
      . have := i2 (1 + j) (by omega) (by omega)
        rw [List.getD_eq_getElem?_getD, List.getD_eq_getElem?_getD, List.getElem?_eq_getElem hj, List.getElem?_eq_getElem (by omega)] at this
        rw [List.getElem?_eq_getElem hj, List.getElem?_eq_getElem (by omega)]
        exact congrArg some this
      . rw [List.getElem?_eq_none (by omega), List.getElem?_eq_none (by omega)]
theorem h68 : c_r13_Match.ok Tryz.prog GL 68 := con_ok (H := {}) (mkEnv_ok (gl := GL) (l := [(28, conSem c_r13_DNS), (30, conSem c_r13_Small), (40, conSem c_r13_Wild), (29, conSem c_r13_Labels)]) (q := []) (d := []) _ tyOk (by kernel_rfl) ⟨h28.call, h30.call, h40.call, h29.call, trivial⟩ trivial trivial) (by kernel_rfl) (by kernel_rfl) (Eq.mp e68 k68)
end Go.Proofs.YtgnlcpoeepfdoaaGreatDoor
end
