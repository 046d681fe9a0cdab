/- Texts of a verified walk, led together: HostA, HostW. -/
import Derived.Test.YtiofbnlbfmbodaaGreatDoorZW06
import Derived.Test.YtiofbnlbfmbodaaGreatDoorZV13
set_option linter.unusedVariables false
set_option linter.unusedSimpArgs false
section
namespace Go.Proofs.YtiofbnlbfmbodaaGreatDoor
open Go Go.Vc Go.Pl Go.Proofs
def c_host_letter : Con := { args := [.dat U8], res := [.dat .bool], pre := fun _ => True, post := fun x y => y.1 = letterD x.1 }
def c_r13_letter : Con := { args := [.dat U8], res := [.dat .bool], pre := fun _ => True, post := fun x y => y.1 = letterD x.1 }
def c_host_digit : Con := { args := [.dat U8], res := [.dat .bool], pre := fun _ => True, post := fun x y => y.1 = digitD x.1 }
def c_r13_digit : Con := { args := [.dat U8], res := [.dat .bool], pre := fun _ => True, post := fun x y => y.1 = digitD x.1 }
def c_host_label_1 : Con := { args := [.dat U8], res := [.dat .bool], pre := fun _ => True, post := fun x y => y.1 = lcharD x.1 }
def c_host_local_1 : Con := { args := [.dat U8], res := [.dat .bool], pre := fun _ => True, post := fun x y => y.1 = mcharD x.1 }
def c_host_label : Con := { args := [.dat .str], res := [.dat .bool], pre := fun x => x.1.length ≤ 1000000000, post := fun x y => y.1 = labelD x.1 }
def c_r13_isLabel : Con := { args := [.dat .str], res := [.dat .bool], pre := fun x => x.1.length ≤ 1000000000, post := fun x y => y.1 = labelD x.1 }
def c_host_local : Con := { args := [.dat .str], res := [.dat .bool], pre := fun x => x.1.length ≤ 1000000000, post := fun x y => y.1 = localD x.1 }
def c_host_DNS : Con := { args := [.dat .str], res := [.dat .bool], pre := fun x => x.1.length ≤ 1000000000, post := fun x y => y.1 = dnsD x.1 }
def c_r13_DNS : Con := { args := [.dat .str], res := [.dat .bool], pre := fun x => x.1.length ≤ 1000000000, post := fun x y => y.1 = dnsD x.1 }
def c_host_Wild : Con := { args := [.dat .str], res := [.dat .bool], pre := fun x => x.1.length ≤ 1000000000, post := fun x y => y.1 = wildD x.1 }
def c_host_Email : Con := { args := [.dat .str], res := [.dat .bool], pre := fun x => x.1.length ≤ 1000000000, post := fun x y => y.1 = emailD x.1 }
def c_r13_Email : Con := { args := [.dat .str], res := [.dat .bool], pre := fun x => x.1.length ≤ 1000000000, post := fun x y => y.1 = emailD x.1 }
def c_host_IP : Con := { args := [.dat .str], res := [.dat .bool], pre := fun _ => True, post := fun x y => y.1 = ipD x.1 }
def c_r13_Labels : Con := { args := [.dat .str], res := [.own 9 .str], pre := fun x => x.1.length ≤ 1000000000, post := fun x y => y.1 = labelsD x.1 }
end Go.Proofs.YtiofbnlbfmbodaaGreatDoor
end
section
namespace Go.Proofs.YtiofbnlbfmbodaaGreatDoor
open Go Go.Vc Go.Pl Go.Proofs
set_option linter.unusedVariables false
set_option linter.unusedSimpArgs false
abbrev q27 := ((Bool × Unit) × (List Int × Unit) × (List Int × Unit) × Unit)
abbrev q265 (p0 : q4) := (p0.1 = false -> (p0.1 == false) = true /\ True)
abbrev q458 (p0 : q5) := (bif bif decide (p0.1 = bs { data := #[] }) then true else decide ((63 : Int) < (lnZ p0.1)) then true else decide (List.getD p0.1 q493 q482 = (45 : Int)))
abbrev q266 (p0 : q5) := ((q458 p0) = false -> ((q458 p0) == false) = true /\ True)
abbrev q267 (p0 : q5) := (bif bif bif decide (q436 p0) then true else decide ((63 : Int) < (lnZ p0.1)) then true else decide (List.getD p0.1 q493 q482 = (45 : Int)) then true else decide
  (List.getD p0.1 (Int.toNat (wrZ ((lnZ p0.1) - q417))) q379 = (45 : Int)))
abbrev q268 (p0 : q4) (p1 : q5) (p2 : q7) (p3 : q9) (p4 : q8) (p5 : Unit) := ((!p0.1) = false -> (lnZ p1.1) = (lnZ p1.1) /\ p1.1 = p1.1 /\ p1.1 = p1.1 /\ Value.bool false = Value.bool false
  /\ Value.bool false = Value.bool false /\ p1.1 = p1.1 /\ p2 (wrZ (p3.1 + q417), p3.2.1, ()) () /\ p4 (wrZ (p3.1 + q417), p3.2.1, ()) () < p4 p3 p5)
abbrev q269 (p0 : q5) := ((q458 p0) = false -> True)
abbrev q270 (p0 : q5) := ((q458 p0) == false)
abbrev q271 (p0 : q5) (p1 : q7) := ((lnZ p0.1) = (lnZ p0.1) /\ p0.1 = p0.1 /\ p0.1 = p0.1 /\ Value.bool false = Value.bool false /\ Value.bool false = Value.bool false /\ p0.1 = p0.1 /\ p1
  (q379, false, ()) ())
abbrev q272 (p0 : q5) := (bif bif decide (q436 p0) then true else decide ((63 : Int) < (lnZ p0.1)) then true else decide (List.getD p0.1 q493 q482 = (45 : Int)))
abbrev q273 (p0 : q5) := ((bif decide (q436 p0) then true else decide ((63 : Int) < (lnZ p0.1))) == false)
abbrev q274 (p0 : q5) := (bif decide (q436 p0) then true else decide ((63 : Int) < (lnZ p0.1)))
abbrev q275 (p0 : q5) (p1 : q9) := (List.getD p0.1 (q384 p1) q379)
abbrev q496 (p0 : q5) (p1 : q9) := (List.getD p0.1 (Int.toNat p1.1) (0 : Int) ≠ (45 : Int))
abbrev q459 (p0 : q5) (p1 : q9) := (bif decide (q496 p0 p1) then true else decide (p1.1 = q482))
abbrev q276 (p0 : q4) (p1 : q5) (p2 : q9) := (((!p0.1) == true && (!p0.1) == true) = true -> (q459 p1 p2) = false -> ((!p0.1) == true && (!p0.1) == true && (q459 p1 p2) == false) = true /\
  True)
abbrev q277 (p0 : q4) (p1 : q5) (p2 : q9) := (bif !p0.1 then bif bif decide (q496 p1 p2) then true else decide (p2.1 = q379) then true else decide (p2.1 = wrZ ((lnZ p1.1) - q417)) else
  false)
abbrev q278 (p0 : q4) (p1 : q5) (p2 : q9) := (((!p0.1) == true && (!p0.1) == true) = true -> (q459 p1 p2) = false -> True)
abbrev q279 (p0 : q4) (p1 : q5) (p2 : q9) := ((!p0.1) == true && (!p0.1) == true && (q459 p1 p2) == false)
abbrev q280 (p0 : q5) (p1 : q9) := (bif decide (q496 p0 p1) then true else decide (p1.1 = q379))
abbrev q281 (p0 : q5) (p1 : q9) := (List.getD p0.1 (q384 p1) q379 ≠ (45 : Int))
abbrev q282 (p0 : q4) := ((!p0.1) == true && (!p0.1) == true)
abbrev q460 (p0 : q5) := (bif bif decide (p0.1 = bs { data := #[] }) then true else decide ((64 : Int) < (lnZ p0.1)) then true else decide (List.getD p0.1 q493 q482 = (46 : Int)))
abbrev q283 (p0 : q5) := ((q460 p0) = false -> ((q460 p0) == false) = true /\ True)
abbrev q461 (p0 : q5) := (List.getD p0.1 q493 q482 = (46 : Int))
abbrev q284 (p0 : q5) := (bif bif bif decide (q436 p0) then true else decide ((64 : Int) < (lnZ p0.1)) then true else decide (q461 p0) then true else decide (List.getD p0.1 (Int.toNat (wrZ
  ((lnZ p0.1) - q417))) q379 = (46 : Int)))
abbrev q285 (p0 : q5) := ((q460 p0) = false -> True)
abbrev q286 (p0 : q5) := ((q460 p0) == false)
abbrev q287 (p0 : q5) := (bif bif decide (q436 p0) then true else decide ((64 : Int) < (lnZ p0.1)) then true else decide (q461 p0))
abbrev q288 (p0 : q5) := ((bif decide (q436 p0) then true else decide ((64 : Int) < (lnZ p0.1))) == false)
abbrev q289 (p0 : q5) := (bif decide (q436 p0) then true else decide ((64 : Int) < (lnZ p0.1)))
abbrev q290 (p0 : Bool × List Int × List Int × Unit) := (cutD (List.getD (bs { data := #[(46 : UInt8)] }) q402 q379) p0.2.1)
abbrev q291 (p0 : q5) := (cutD (List.getD (bs { data := #[(46 : UInt8)] }) q402 q379) p0.1)
abbrev q292 := (bs { data := #[(46 : UInt8)] })
abbrev q293 (p0 : q15) := (lnZ (List.getD p0.1 (Int.toNat (wrZ ((lnZ p0.1) - q417))) (Kd.dft Kd.str)))
abbrev q294 (p0 : q15) := (Int.toNat (wrZ ((lnZ p0.1) - q417)))
abbrev q295 (p0 : List Int × Bool × Unit) (p1 : q5) := (bif p0.2.1 then decide ((lnZ p1.1) <= (253 : Int)) else false)
abbrev q296 := (bs { data := #[(42 : UInt8), (46 : UInt8)] })
abbrev q297 (p0 : q5) := (cutD (List.getD (bs { data := #[(64 : UInt8)] }) q402 q379) p0.1)
abbrev q462 (p0 : q1) (p1 : q5) := (bif bif bif decide (p0.1 = (lnZ p1.1)) then true else decide (p0.1 < (1 : Int)) then true else decide ((64 : Int) < p0.1) then true else decide
  (List.getD p1.1 q493 q482 = (46 : Int)))
abbrev q298 (p0 : q1) (p1 : q5) := ((q462 p0 p1) = false -> ((q462 p0 p1) == false) = true /\ True)
abbrev q463 (p0 : q5) (p1 : q9) := (List.getD p0.1 (Int.toNat p1.1) q482 ≠ (46 : Int))
abbrev q464 (p0 : q5) (p1 : q9) := (List.getD p0.1 (Int.toNat p1.1) q482 ≠ (95 : Int))
abbrev q299 (p0 : q4) (p1 : q5) (p2 : q9) := (bif bif bif bif !p0.1 then decide (q463 p1 p2) else false then decide (q464 p1 p2) else false then decide (List.getD p1.1 (q384 p2) q379 ≠ (43
  : Int)) else false then decide (q496 p1 p2) else false)
abbrev q300 (p0 : q1) (p1 : q5) := (bif bif bif bif decide (p0.1 = (lnZ p1.1)) then true else decide (p0.1 < q417) then true else decide ((64 : Int) < p0.1) then true else decide (q461 p1)
  then true else decide (List.getD p1.1 (Int.toNat (wrZ (p0.1 - q417))) q379 = (46 : Int)))
abbrev q301 (p0 : q4) (p1 : q5) (p2 : q9) := ((bif bif bif !p0.1 then decide (q463 p1 p2) else false then decide (q464 p1 p2) else false then decide (List.getD p1.1 (q384 p2) q379 ≠ (43 :
  Int)) else false) == true)
abbrev q302 (p0 : q4) (p1 : q5) (p2 : q9) := (bif bif bif !p0.1 then decide (q463 p1 p2) else false then decide (q464 p1 p2) else false then decide (List.getD p1.1 (q384 p2) q379 ≠ (43 :
  Int)) else false)
abbrev q303 (p0 : q1) (p1 : q5) := ((q462 p0 p1) = false -> True)
abbrev q304 (p0 : q1) (p1 : q5) := ((q462 p0 p1) == false)
abbrev q305 (p0 : q1) (p1 : q5) := (bif bif bif decide (p0.1 = (lnZ p1.1)) then true else decide (p0.1 < q417) then true else decide ((64 : Int) < p0.1) then true else decide (q461 p1))
abbrev q306 (p0 : q4) (p1 : q5) (p2 : q9) := ((bif bif !p0.1 then decide (q463 p1 p2) else false then decide (q464 p1 p2) else false) == true)
abbrev q307 (p0 : q4) (p1 : q5) (p2 : q9) := (bif bif !p0.1 then decide (q463 p1 p2) else false then decide (q464 p1 p2) else false)
abbrev q465 (p0 : q5) (p1 : q9) := (List.getD p0.1 (Int.toNat p1.1) q482 = (46 : Int))
abbrev q308 (p0 : q5) (p1 : q9) := (bif decide (q465 p0 p1) then decide (List.getD p0.1 (Int.toNat (wrZ (p1.1 + q417))) q379 = (46 : Int)) else false)
abbrev q309 (p0 : q5) (p1 : q9) := (decide (q465 p0 p1) = true -> (decide (q465 p0 p1) == true) = true /\ True)
abbrev q310 (p0 : q1) (p1 : q5) := ((bif bif decide (p0.1 = (lnZ p1.1)) then true else decide (p0.1 < q417) then true else decide ((64 : Int) < p0.1)) == false)
abbrev q311 (p0 : q1) (p1 : q5) := (bif bif decide (p0.1 = (lnZ p1.1)) then true else decide (p0.1 < q417) then true else decide ((64 : Int) < p0.1))
abbrev q312 (p0 : q4) (p1 : q5) (p2 : q9) := (bif !p0.1 then decide (q463 p1 p2) else false)
abbrev q313 (p0 : q5) (p1 : q9) := (decide (q465 p0 p1) == true)
abbrev q314 (p0 : q1) (p1 : q5) := (bif decide (p0.1 = (lnZ p1.1)) then true else decide (p0.1 < q417))
abbrev q315 (p0 : q5) (p1 : q9) := (List.getD p0.1 (q384 p1) q379 = (46 : Int))
def t177 : Prop :=
  ∀ (x : q1), (q103 x) -> True -> (decide ((97 : Int) <= x.1) = true -> True) /\ (q98 x) /\ (q100 x) /\ (q116 x) /\ (q111 x) /\ (q116 x) /\ (q110 x) /\ (q105 x) /\ (q104 x) /\ (q113 x) /\
  (q115 x) = letterD x.1
theorem e177 : t177 = Con.vc c_host_letter GL (mkEnv ty [] [] [] [0, 2]) {} Tryz.f177.ntmps Tryz.f177.results.toList (bodyOf Tryz.f177) := by kernel_rfl
theorem k177 : t177 := by
  unfold t177
  delta q1 q103 q98 q100 q116 q111 q110 q105 q104 q113 q115 q488 q382 q433 q481 q432 q502
  rintro ⟨l, _⟩ hx hp
  try dsimp +instances only [dft_int, dft_sl, dft_str]
  simp only [true_and, and_true, eq_self_iff_true, implies_true, reduceCtorEq, false_implies, true_implies, decide_eq_true_eq, decide_eq_false_iff_not, beq_self_eq_true, Bool.not_eq_true', ne_eq, Decidable.not_not, List.nil_append, List.length_singleton, List.length_cons, List.length_nil, Nat.zero_add, Nat.add_zero, Nat.mul_one, and_self, beq_iff_eq, Bool.not_true, Bool.not_false, Bool.not_eq_false', Bool.cond_false_right, Bool.and_eq_true, imp_self, Bool.not_eq_true, Bool.cond_true_left, Bool.or_eq_true]
  refine ⟨fun h h2 => ⟨h, h2⟩, fun h => ⟨h, fun h2 => ⟨h, h2⟩⟩, ?_⟩
  rw [Bool.eq_iff_iff, letterD]
  simp only [Bool.or_eq_true, Bool.and_eq_true, decide_eq_true_eq]
theorem h177 : c_host_letter.ok Tryz.prog GL 177 := con_ok (H := {}) (mkEnv_ok (gl := GL) (l := []) (q := []) (d := []) _ tyOk (by kernel_rfl) trivial trivial trivial) (by kernel_rfl) (by kernel_rfl) (Eq.mp e177 k177)
def t140 : Prop :=
  ∀ (x : q1), (q103 x) -> True -> (decide ((97 : Int) <= x.1) = true -> True) /\ (q98 x) /\ (q100 x) /\ (q116 x) /\ (q111 x) /\ (q116 x) /\ (q110 x) /\ (q105 x) /\ (q104 x) /\ (q113 x) /\
  (q115 x) = letterD x.1
theorem e140 : t140 = Con.vc c_r13_letter GL (mkEnv ty [] [] [] [0, 2]) {} Tryz.f140.ntmps Tryz.f140.results.toList (bodyOf Tryz.f140) := by kernel_rfl
theorem k140 : t140 := by
  unfold t140
  delta q1 q103 q98 q100 q116 q111 q110 q105 q104 q113 q115 q488 q382 q433 q481 q432 q502
  rintro ⟨l, _⟩ hx hp
  try dsimp +instances only [dft_int, dft_sl, dft_str]
  simp only [true_and, and_true, eq_self_iff_true, implies_true, reduceCtorEq, false_implies, true_implies, decide_eq_true_eq, decide_eq_false_iff_not, beq_self_eq_true, Bool.not_eq_true', ne_eq, Decidable.not_not, List.nil_append, List.length_singleton, List.length_cons, List.length_nil, Nat.zero_add, Nat.add_zero, Nat.mul_one, and_self, beq_iff_eq, Bool.not_true, Bool.not_false, Bool.not_eq_false', Bool.cond_false_right, Bool.and_eq_true, imp_self, Bool.not_eq_true, Bool.cond_true_left, Bool.or_eq_true]
  refine ⟨fun h h2 => ⟨h, h2⟩, fun h => ⟨h, fun h2 => ⟨h, h2⟩⟩, ?_⟩
  rw [Bool.eq_iff_iff, letterD]
  simp only [Bool.or_eq_true, Bool.and_eq_true, decide_eq_true_eq]
theorem h140 : c_r13_letter.ok Tryz.prog GL 140 := con_ok (H := {}) (mkEnv_ok (gl := GL) (l := []) (q := []) (d := []) _ tyOk (by kernel_rfl) trivial trivial trivial) (by kernel_rfl) (by kernel_rfl) (Eq.mp e140 k140)
def t165 : Prop :=
  ∀ (x : q1), (q103 x) -> True -> (decide (q383 <= x.1) = true -> True) /\ (q99 x) /\ (q101 x) /\ (q102 x) = digitD x.1
theorem e165 : t165 = Con.vc c_host_digit GL (mkEnv ty [] [] [] [0, 2]) {} Tryz.f165.ntmps Tryz.f165.results.toList (bodyOf Tryz.f165) := by kernel_rfl
theorem k165 : t165 := by
  unfold t165
  delta q1 q103 q383 q99 q101 q102 q488
  rintro ⟨l, _⟩ hx hp
  try dsimp +instances only [dft_int, dft_sl, dft_str]
  simp only [true_and, and_true, eq_self_iff_true, implies_true, reduceCtorEq, false_implies, true_implies, decide_eq_true_eq, decide_eq_false_iff_not, beq_self_eq_true, Bool.not_eq_true', ne_eq, Decidable.not_not, List.nil_append, List.length_singleton, List.length_cons, List.length_nil, Nat.zero_add, Nat.add_zero, Nat.mul_one, and_self, beq_iff_eq, Bool.not_true, Bool.not_false, Bool.not_eq_false', Bool.cond_false_right, Bool.and_eq_true, imp_self, Bool.not_eq_true, Bool.cond_true_left, Bool.or_eq_true]
  rw [Bool.eq_iff_iff, digitD]
  simp only [Bool.and_eq_true, decide_eq_true_eq]
theorem h165 : c_host_digit.ok Tryz.prog GL 165 := con_ok (H := {}) (mkEnv_ok (gl := GL) (l := []) (q := []) (d := []) _ tyOk (by kernel_rfl) trivial trivial trivial) (by kernel_rfl) (by kernel_rfl) (Eq.mp e165 k165)
def t139 : Prop :=
  ∀ (x : q1), (q103 x) -> True -> (decide (q383 <= x.1) = true -> True) /\ (q99 x) /\ (q101 x) /\ (q102 x) = digitD x.1
theorem e139 : t139 = Con.vc c_r13_digit GL (mkEnv ty [] [] [] [0, 2]) {} Tryz.f139.ntmps Tryz.f139.results.toList (bodyOf Tryz.f139) := by kernel_rfl
theorem k139 : t139 := by
  unfold t139
  delta q1 q103 q383 q99 q101 q102 q488
  rintro ⟨l, _⟩ hx hp
  try dsimp +instances only [dft_int, dft_sl, dft_str]
  simp only [true_and, and_true, eq_self_iff_true, implies_true, reduceCtorEq, false_implies, true_implies, decide_eq_true_eq, decide_eq_false_iff_not, beq_self_eq_true, Bool.not_eq_true', ne_eq, Decidable.not_not, List.nil_append, List.length_singleton, List.length_cons, List.length_nil, Nat.zero_add, Nat.add_zero, Nat.mul_one, and_self, beq_iff_eq, Bool.not_true, Bool.not_false, Bool.not_eq_false', Bool.cond_false_right, Bool.and_eq_true, imp_self, Bool.not_eq_true, Bool.cond_true_left, Bool.or_eq_true]
  rw [Bool.eq_iff_iff, digitD]
  simp only [Bool.and_eq_true, decide_eq_true_eq]
theorem h139 : c_r13_digit.ok Tryz.prog GL 139 := con_ok (H := {}) (mkEnv_ok (gl := GL) (l := []) (q := []) (d := []) _ tyOk (by kernel_rfl) trivial trivial trivial) (by kernel_rfl) (by kernel_rfl) (Eq.mp e139 k139)
def t180 : Prop :=
  ∀ (x : q1), (q103 x) -> True -> True /\ (∀ (y : q4), (q47 y) -> y.1 = letterD x.1 -> (y.1 = false -> True) /\ (y.1 = false -> (y.1 == false) = true /\ True /\ (∀ (y : q4), (q47 y) -> y.1 =
  digitD x.1 -> (y.1 = false -> True) /\ (q265 y) /\ (y.1 = false -> (y.1 == false) = true) /\ (bif y.1 then true else decide (x.1 = (45 : Int))) = lcharD x.1) /\ True) /\ (y.1 = !false ->
  true = lcharD x.1)) /\ True
theorem e180 : t180 = Con.vc c_host_label_1 GL (mkEnv ty [(177, conSem c_host_letter), (165, conSem c_host_digit)] [] [] [0, 2]) {} Tryz.f180.ntmps Tryz.f180.results.toList (bodyOf Tryz.f180) := by kernel_rfl
theorem k180 : t180 := by
  unfold t180
  delta q1 q103 q4 q47 q265 q488 wbZ
  rintro ⟨l, _⟩ hx hp
  try dsimp +instances only [dft_int, dft_sl, dft_str]
  simp only [true_and, and_true, eq_self_iff_true, implies_true, reduceCtorEq, false_implies, true_implies, decide_eq_true_eq, decide_eq_false_iff_not, beq_self_eq_true, Bool.not_eq_true', ne_eq, Decidable.not_not, List.nil_append, List.length_singleton, List.length_cons, List.length_nil, Nat.zero_add, Nat.add_zero, Nat.mul_one, and_self, beq_iff_eq, Bool.not_true, Bool.not_false, Bool.not_eq_false', Bool.cond_false_right, Bool.and_eq_true, imp_self, Bool.not_eq_true, Bool.cond_true_left, Bool.or_eq_true]
  rintro ⟨a, _⟩ _ ea
  simp only at ea ⊢
  subst ea
  refine ⟨fun h => ⟨h, ?_⟩, fun h => by rw [lcharD, h]; rfl⟩
  rintro ⟨b, _⟩ _ eb
  simp only at eb ⊢
  rw [lcharD, h, eb]; rfl
theorem h180 : c_host_label_1.ok Tryz.prog GL 180 := con_ok (H := {}) (mkEnv_ok (gl := GL) (l := [(177, conSem c_host_letter), (165, conSem c_host_digit)]) (q := []) (d := []) _ tyOk (by kernel_rfl) ⟨h177.call, h165.call, trivial⟩ trivial trivial) (by kernel_rfl) (by kernel_rfl) (Eq.mp e180 k180)
def t176 : Prop :=
  ∀ (x : q1), (q103 x) -> True -> True /\ (∀ (y : q4), (q47 y) -> y.1 = letterD x.1 -> (y.1 = false -> True) /\ (y.1 = false -> (y.1 == false) = true /\ True /\ (∀ (y : q4), (q47 y) -> y.1 =
  digitD x.1 -> (y.1 = false -> True) /\ (q265 y) /\ (y.1 = false -> True) /\ ((y.1 == false && y.1 == false) = true -> decide (x.1 ≠ q40) = true -> True) /\ ((y.1 == false && y.1 == false) =
  true -> decide (x.1 ≠ q40) = true -> (y.1 == false && y.1 == false && decide (x.1 ≠ q40) == true) = true /\ True /\ (∀ (y_1 : q1), (q36 y_1) -> y_1.1 = idxB (bs { data := #[(46 : UInt8),
  (95 : UInt8), (43 : UInt8), (45 : UInt8)] }) x.1 -> (y.1 = false -> True) /\ (y.1 = false -> (y.1 == false) = true) /\ (bif y.1 then true else decide (q39 y_1)) = mcharD x.1) /\ True) /\
  ((y.1 == false && y.1 == false) = true -> decide (x.1 ≠ q40) = !true -> (y.1 = false -> True) /\ (y.1 = false -> (y.1 == false) = true) /\ (bif y.1 then true else false) = mcharD x.1) /\
  ((y.1 == false && y.1 == false) = false -> (y.1 = false -> False) /\ (y.1 = !false -> true = mcharD x.1))) /\ True) /\ (y.1 = !false -> true = mcharD x.1)) /\ True
theorem e176 : t176 = Con.vc c_host_local_1 GL (mkEnv ty [(177, conSem c_host_letter), (165, conSem c_host_digit), (178, conSem c_strings_IndexByte)] [] [] [0, 2]) {} Tryz.f176.ntmps Tryz.f176.results.toList (bodyOf Tryz.f176) := by kernel_rfl
theorem k176 : t176 := by
  unfold t176
  delta q1 q103 q4 q47 q265 q40 q36 q39 q488 wbZ wiZ q379
  rintro ⟨l, _⟩ hx hp
  try dsimp +instances only [dft_int, dft_sl, dft_str]
  simp only [true_and, and_true, eq_self_iff_true, implies_true, reduceCtorEq, false_implies, true_implies, decide_eq_true_eq, decide_eq_false_iff_not, beq_self_eq_true, Bool.not_eq_true', ne_eq, Decidable.not_not, List.nil_append, List.length_singleton, List.length_cons, List.length_nil, Nat.zero_add, Nat.add_zero, Nat.mul_one, and_self, beq_iff_eq, Bool.not_true, Bool.not_false, Bool.not_eq_false', Bool.cond_false_right, Bool.and_eq_true, imp_self, Bool.not_eq_true, Bool.cond_true_left, Bool.or_eq_true]
  have hb : bs { data := #[46, 95, 43, 45] } = [46, 95, 43, 45] := by decide
  have hi : decide (0 ≤ idxB [46, 95, 43, 45] l) = decide (l = 46 ∨ l = 95 ∨ l = 43 ∨ l = 45) := by
    refine decide_eq_decide.2 ((idxB_mem _ _).trans ?_)
    simp
  rw [hb]
  rintro ⟨a, _⟩ _ ea
  simp only at ea ⊢
  subst ea
  refine ⟨fun h => ⟨h, ?_⟩, fun h => by rw [mcharD, h]; rfl⟩
  rintro ⟨b, _⟩ _ eb
  simp only at eb ⊢
  refine ⟨fun h1 h2 => ⟨⟨h1, h2⟩, ?_⟩, fun h1 h2 => ?_, fun h1 => ⟨fun h2 => ?_, fun h2 => ?_⟩⟩
  . rintro ⟨c, _⟩ _ ec
    simp only at ec ⊢
    rw [mcharD, h, ← eb, h1, ec, hi]; rfl
  . subst h2
    rw [mcharD, h, ← eb, h1]; rfl
  . rw [h2] at h1; cases h1
  . rw [mcharD, h, ← eb, h2]; rfl
theorem h176 : c_host_local_1.ok Tryz.prog GL 176 := con_ok (H := {}) (mkEnv_ok (gl := GL) (l := [(177, conSem c_host_letter), (165, conSem c_host_digit), (178, conSem c_strings_IndexByte)]) (q := []) (d := []) _ tyOk (by kernel_rfl) ⟨h177.call, h165.call, h178.call, trivial⟩ trivial trivial) (by kernel_rfl) (by kernel_rfl) (Eq.mp e176 k176)
noncomputable def i164 : CallSem := vcFn (mkEnv ty [(180, conSem c_host_label_1), (176, conSem c_host_local_1), (165, conSem c_host_digit)] [] [] [0, 1, 4, 5, 7, 8, 9, 16]) {} Tryz.f164.ntmps Tryz.f164.results.toList (bodyOf Tryz.f164)
theorem i164_ok : CallOk Tryz.prog GL 164 i164 := inl_ok {} (mkEnv_ok (gl := GL) (l := [(180, conSem c_host_label_1), (176, conSem c_host_local_1), (165, conSem c_host_digit)]) (q := []) (d := []) _ tyOk (by kernel_rfl) ⟨h180.call, h176.call, h165.call, trivial⟩ trivial trivial) (by kernel_rfl) (by kernel_rfl)
def t163 : Prop :=
  ∀ (x : q5), (q68 x) -> List.length x.1 <= q84 -> (q139 x) /\ (q136 x) /\ (q136 x) /\ (q137 x) /\ ((q274 x) = false -> True) /\ ((q274 x) = false -> (q273 x) = true /\ (q64 x) /\ True) /\
  ((q274 x) = false -> (q273 x) = true /\ True) /\ ((q274 x) = false -> (q273 x) = true) /\ (q269 x) /\ (q269 x) /\ (q266 x) /\ (q266 x) /\ ((q272 x) = false -> (q270 x) = true /\ (q270 x) =
  true /\ (q40 <= wrZ ((lnZ x.1) - q417) /\ wrZ ((lnZ x.1) - q417) < (lnZ x.1)) /\ True) /\ (q266 x) /\ ((q272 x) = false -> (q270 x) = true) /\ ((q267 x) = true -> false = labelD x.1) /\
  ((q267 x) = false -> ∃ (I : q7), ∃ (μ : q8), (q271 x I) /\ ∀ (y : q9) (z : Unit), (q83 y) -> True -> I y z -> (decide (y.1 < (lnZ x.1)) = true -> (q212 y x) /\ True /\ (∀ (y_1 : q4), (q47
  y_1) -> y_1.1 = lcharD (q275 x y) -> ((!y_1.1) = true -> false = labelD x.1) /\ (q268 y_1 x I y μ z)) /\ True) /\ (decide (y.1 < (lnZ x.1)) = false -> true = labelD x.1))
theorem e163 : t163 = Con.vc c_host_label GL (mkEnv ty [(164, i164)] [] [] [0, 2, 22]) {} Tryz.f163.ntmps Tryz.f163.results.toList (bodyOf Tryz.f163) := by kernel_rfl
theorem k163 : t163 := by
  unfold t163
  delta q5 q68 q84 q139 q136 q137 q274 q273 q64 q269 q266 q272 q270 q40 wrZ lnZ q417 q267 q7 q8 q271 q9 q83 q212 q4 q47 q275 q268 wsZ q436 q379 q458 q493 q482 wiZ wbZ q384
  rintro ⟨l, _⟩ hx hp
  have hp : l.length ≤ 1000000000 := hp
  try dsimp +instances only [dft_int, dft_sl, dft_str]
  simp only [true_and, and_true, eq_self_iff_true, implies_true, reduceCtorEq, false_implies, true_implies, decide_eq_true_eq, decide_eq_false_iff_not, beq_self_eq_true, Bool.not_eq_true', ne_eq, Decidable.not_not, List.nil_append, List.length_singleton, List.length_cons, List.length_nil, Nat.zero_add, Nat.add_zero, Nat.mul_one, and_self, beq_iff_eq, Bool.not_true, Bool.not_false, Bool.not_eq_false', Bool.cond_false_right, Bool.and_eq_true, imp_self, Bool.not_eq_true, Bool.cond_true_left, Bool.or_eq_true]
  rw [bs_nil]
  have hl0 : l = [] ↔ l.length = 0 := ⟨fun h => by rw [h]; rfl, List.eq_nil_of_length_eq_zero⟩
  have hw : IntKind.wrap .i64 ((l.length : Int) - 1) = l.length - 1 := wrapK _ (by omega) (by omega)
  have ht : ((l.length : Int) - 1).toNat = l.length - 1 := by omega
  rw [hw, ht]
  simp only [hl0, Bool.or_eq_false_iff, decide_eq_false_iff_not]
  refine ⟨fun h => ⟨h, by omega, by omega⟩, fun h => ⟨h, h, by omega, by omega⟩, fun h => ?_, fun h => ?_⟩
  . rw [labelD, decide_eq_false (fun hh => by rw [Ne, hl0] at hh; omega)]; rfl
  . have hl : labelD l = l.all lcharD := by
      rw [labelD, decide_eq_true (by rw [Ne, hl0]; omega)]; rfl
    rw [hl]
    refine ⟨fun y _ => 0 ≤ y.1 ∧ y.1 ≤ l.length ∧ ∀ j, j < y.1.toNat → lcharD (l.getD j 0) = true, fun y _ => ((l.length : Int) - y.1).toNat, ⟨by decide, by omega, fun j hj => by simp at hj⟩, ?_⟩
    rintro ⟨i, b, _⟩ _ _ ⟨i0, i1, i2⟩
    simp only at i0 i1 i2 ⊢
    have hw1 : IntKind.wrap .i64 (i + 1) = i + 1 := wrapK _ (by omega) (by omega)
    rw [hw1]
    refine ⟨fun hlt => ⟨⟨i0, hlt⟩, ?_⟩, fun hge => (all_get _ _ (fun j hj => i2 j (by omega))).symm⟩
    rintro ⟨c, _⟩ _ ec
    simp only at ec ⊢
    refine ⟨fun h => (all_not _ _ i.toNat (by omega) (ec.symm.trans h)).symm, fun h => ⟨⟨by omega, by omega, fun j hj => ?_⟩, by omega⟩⟩
    by_cases hji : j < i.toNat
    . exact i2 j hji
    . rw [show j = i.toNat by omega, ← ec]; exact h
theorem h163 : c_host_label.ok Tryz.prog GL 163 := con_ok (H := {}) (mkEnv_ok (gl := GL) (l := [(164, i164)]) (q := []) (d := []) _ tyOk (by kernel_rfl) ⟨i164_ok, trivial⟩ trivial trivial) (by kernel_rfl) (by kernel_rfl) (Eq.mp e163 k163)
def t138 : Prop :=
  ∀ (x : q5), (q68 x) -> List.length x.1 <= q84 -> (decide (q67 x) = false -> True) /\ (decide (q67 x) = false -> (decide (q67 x) == false) = true /\ True) /\ (decide (q67 x) = false ->
  (decide (q67 x) == false) = true /\ True) /\ (decide (q67 x) = false -> (decide (q67 x) == false) = true) /\ ((bif decide (q67 x) then true else decide ((63 : Int) < (lnZ x.1))) = true ->
  false = labelD x.1) /\ ((bif decide (q67 x) then true else decide ((63 : Int) < (lnZ x.1))) = false -> ∃ (I : q7), ∃ (μ : q8), (Value.bool false = Value.bool false /\ x.1 = x.1 /\ I (q40,
  false, ()) ()) /\ ∀ (y : q9) (z : Unit), (q83 y) -> True -> I y z -> (decide (y.1 < (lnZ x.1)) = true -> (q212 y x) /\ True /\ (∀ (y_1 : q4), (q47 y_1) -> y_1.1 = letterD (q275 x y) ->
  ((!y_1.1) = true -> True) /\ ((!y_1.1) = true -> True) /\ ((!y_1.1) = true -> ((!y_1.1) == true) = true /\ ((!y_1.1) == true) = true /\ (q212 y x) /\ True) /\ ((!y_1.1) = true -> ((!y_1.1)
  == true) = true /\ True /\ (∀ (y_2 : q4), (q47 y_2) -> y_2.1 = digitD (q275 x y) -> ((!y_2.1) = true -> True) /\ ((!y_2.1) = true -> True) /\ ((!y_2.1) = true -> ((!y_2.1) == true) = true
  /\ ((!y_2.1) == true) = true /\ (q212 y x) /\ True) /\ ((!y_2.1) = true -> ((!y_2.1) == true) = true /\ True) /\ ((!y_2.1) = true -> True) /\ ((q282 y_2) = true -> decide (q281 x y) = false
  -> True) /\ ((q282 y_2) = true -> decide (q281 x y) = false -> ((!y_2.1) == true && (!y_2.1) == true && decide (q281 x y) == false) = true /\ True) /\ ((!y_2.1) = true -> (q282 y_2) = true
  /\ (decide (q281 x y) = false -> ((!y_2.1) == true && (!y_2.1) == true && decide (q281 x y) == false) = true) /\ True) /\ ((!y_2.1) = true -> True) /\ (q278 y_2 x y) /\ (q278 y_2 x y) /\
  (q276 y_2 x y) /\ (q276 y_2 x y) /\ ((q282 y_2) = true -> (q280 x y) = false -> (q279 y_2 x y) = true /\ (q279 y_2 x y) = true /\ True) /\ ((!y_2.1) = true -> (q282 y_2) = true /\ ((q280 x
  y) = false -> (q279 y_2 x y) = true) /\ True) /\ ((!y_2.1) = true -> ((!y_2.1) == true) = true) /\ ((q277 y_2 x y) = true -> false = labelD x.1) /\ ((q277 y_2 x y) = false -> Value.bool
  false = Value.bool false /\ x.1 = x.1 /\ I (wrZ (q85 y), y.2.1, ()) () /\ μ (wrZ (q85 y), y.2.1, ()) () < μ y z)) /\ True) /\ ((!y_1.1) = !true -> Value.bool false = Value.bool false /\ x.1
  = x.1 /\ I (wrZ (q85 y), y.2.1, ()) () /\ μ (wrZ (q85 y), y.2.1, ()) () < μ y z)) /\ True) /\ (decide (y.1 < (lnZ x.1)) = false -> true = labelD x.1))
theorem e138 : t138 = Con.vc c_r13_isLabel GL (mkEnv ty [(140, conSem c_r13_letter), (139, conSem c_r13_digit)] [] [] [0, 2, 3, 11, 15, 46]) {} Tryz.f138.ntmps Tryz.f138.results.toList (bodyOf Tryz.f138) := by kernel_rfl
theorem k138 : t138 := by
  unfold t138
  delta q5 q68 q84 q67 lnZ q7 q8 q40 q9 q83 q212 q4 q47 q275 q282 q281 q278 q276 q280 q279 q277 wrZ q85 wsZ q417 wiZ wbZ q379 q384 q459 q496 q482
  rintro ⟨l, _⟩ hx hp
  have hp : l.length ≤ 1000000000 := hp
  try dsimp +instances only [dft_int, dft_sl, dft_str]
  simp only [true_and, and_true, eq_self_iff_true, implies_true, reduceCtorEq, false_implies, true_implies, decide_eq_true_eq, decide_eq_false_iff_not, beq_self_eq_true, Bool.not_eq_true', ne_eq, Decidable.not_not, List.nil_append, List.length_singleton, List.length_cons, List.length_nil, Nat.zero_add, Nat.add_zero, Nat.mul_one, and_self, beq_iff_eq, Bool.not_true, Bool.not_false, Bool.not_eq_false', Bool.cond_false_right, Bool.and_eq_true, imp_self, Bool.not_eq_true, Bool.cond_true_left, Bool.or_eq_true]
  have hl0 : l = [] ↔ l.length = 0 := ⟨fun h => by rw [h]; rfl, List.eq_nil_of_length_eq_zero⟩
  have hw : IntKind.wrap .i64 ((l.length : Int) - 1) = l.length - 1 := wrapK _ (by omega) (by omega)
  rw [hw]
  simp only [Bool.or_eq_false_iff, decide_eq_false_iff_not, Bool.and_eq_false_iff, Bool.not_eq_false']
  refine ⟨fun h => ?_, fun h => ?_⟩
  . rw [labelD, decide_eq_false (by rw [Ne, hl0]; omega)]; rfl
  . have bad0 : l.getD 0 0 = 45 → labelD l = false := fun e => by rw [labelD, decide_eq_false (fun hh => hh.2.2.1 e)]; rfl
    have bad1 : l.getD (l.length - 1) 0 = 45 → labelD l = false := fun e => by rw [labelD, decide_eq_false (fun hh => hh.2.2.2 e)]; rfl
    have badc : ∀ i, i < l.length → lcharD (l.getD i 0) = false → labelD l = false := fun i hi e => by rw [labelD, all_not _ _ i hi e, Bool.and_false]
    have hgood : (∀ i, i < l.length → lcharD (l.getD i 0) = true) → l.getD 0 0 ≠ 45 → l.getD (l.length - 1) 0 ≠ 45 → labelD l = true := fun h1 h2 h3 => by
      rw [labelD, all_get _ _ h1, decide_eq_true ⟨by rw [Ne, hl0]; omega, by omega, h2, h3⟩]; rfl
    refine ⟨fun y _ => 0 ≤ y.1 ∧ y.1 ≤ l.length ∧ ∀ j, j < y.1.toNat → lcharD (l.getD j 0) = true ∧ (l.getD j 0 = 45 → j ≠ 0 ∧ j ≠ l.length - 1), fun y _ => ((l.length : Int) - y.1).toNat, ⟨by decide, by omega, fun j hj => by simp at hj⟩, ?_⟩
    rintro ⟨i, b, _⟩ _ _ ⟨i0, i1, i2⟩
    simp only at i0 i1 i2 ⊢
    have hw1 : IntKind.wrap .i64 (i + 1) = i + 1 := wrapK _ (by omega) (by omega)
    rw [hw1]
    have next : lcharD (l.getD i.toNat 0) = true → (l.getD i.toNat 0 = 45 → i ≠ 0 ∧ i ≠ l.length - 1) → i < l.length → (0 ≤ i + 1 ∧ i + 1 ≤ l.length ∧ ∀ j, j < (i + 1).toNat → lcharD (l.getD j 0) = true ∧ (l.getD j 0 = 45 → j ≠ 0 ∧ j ≠ l.length - 1)) ∧ ((l.length : Int) - (i + 1)).toNat < ((l.length : Int) - i).toNat := fun h1 h2 h3 => by
      refine ⟨⟨by omega, by omega, fun j hj => ?_⟩, by omega⟩
      by_cases hji : j < i.toNat
      . exact i2 j hji
      . rw [show j = i.toNat by omega]
        refine ⟨h1, fun e => ?_⟩
        have := h2 e
        omega
    refine ⟨fun hlt => ⟨⟨i0, hlt⟩, ?_⟩, fun hge => (hgood (fun j hj => (i2 j (by omega)).1) (fun e => ((i2 0 (by omega)).2 e).1 rfl) (fun e => ((i2 (l.length - 1) (by omega)).2 e).2 rfl)).symm⟩
    rintro ⟨c, _⟩ _ ec
    simp only at ec ⊢
    refine ⟨fun h => ⟨h, h, i0, hlt⟩, fun h => ⟨h, ?_⟩, fun h => next (by rw [lcharD, ← ec, h]; rfl) (fun e => by rw [e] at ec; rw [ec] at h; cases h) hlt⟩
    have hl1 := ec.symm.trans h
    rintro ⟨d, _⟩ _ ed
    simp only at ed ⊢
    refine ⟨fun h => ⟨h, h, i0, hlt⟩, fun h1 h2 => ⟨h1, h2⟩, fun h1 => ⟨h1, fun h2 => ⟨h1, h2⟩⟩, fun h1 h2 => ⟨h1, h2⟩, fun h1 h2 => ⟨h1, h2⟩, fun h1 h2 => ⟨h1, h2⟩, fun h1 => ⟨h1, fun h2 => ⟨h1, h2⟩⟩, fun h1 => ?_, fun h1 => ?_⟩
    . refine Eq.symm ?_
      obtain ⟨h1, h2⟩ := h1
      have hd := ed.symm.trans h1
      rcases h2 with (h2 | h2) | h2
      . exact badc i.toNat (by omega) (by rw [lcharD, hl1, hd, decide_eq_false h2]; rfl)
      . by_cases e : l.getD i.toNat 0 = 45
        . exact bad0 (by rw [h2] at e; exact e)
        . exact badc i.toNat (by omega) (by rw [lcharD, hl1, hd, decide_eq_false e]; rfl)
      . by_cases e : l.getD i.toNat 0 = 45
        . exact bad1 (by rw [h2, show ((l.length : Int) - 1).toNat = l.length - 1 by omega] at e; exact e)
        . exact badc i.toNat (by omega) (by rw [lcharD, hl1, hd, decide_eq_false e]; rfl)
    . rcases h1 with h1 | h1
      . refine next (by rw [lcharD, hl1, ← ed, h1]; rfl) (fun e => ?_) hlt
        rw [e] at ed
        rw [ed] at h1
        cases h1
      . have e : l.getD i.toNat 0 = 45 := Classical.not_not.1 h1.1.1
        exact next (by rw [e]; decide) (fun _ => ⟨h1.1.2, h1.2⟩) hlt
theorem h138 : c_r13_isLabel.ok Tryz.prog GL 138 := con_ok (H := {}) (mkEnv_ok (gl := GL) (l := [(140, conSem c_r13_letter), (139, conSem c_r13_digit)]) (q := []) (d := []) _ tyOk (by kernel_rfl) ⟨h140.call, h139.call, trivial⟩ trivial trivial) (by kernel_rfl) (by kernel_rfl) (Eq.mp e138 k138)
def t161 : Prop :=
  ∀ (x : q5), (q68 x) -> List.length x.1 <= q84 -> (q139 x) /\ (q136 x) /\ (q136 x) /\ (q137 x) /\ ((q289 x) = false -> True) /\ ((q289 x) = false -> (q288 x) = true /\ (q64 x) /\ True) /\
  ((q289 x) = false -> (q288 x) = true /\ True) /\ ((q289 x) = false -> (q288 x) = true) /\ (q285 x) /\ (q285 x) /\ (q283 x) /\ (q283 x) /\ ((q287 x) = false -> (q286 x) = true /\ (q286 x) =
  true /\ (q40 <= wrZ ((lnZ x.1) - q417) /\ wrZ ((lnZ x.1) - q417) < (lnZ x.1)) /\ True) /\ (q283 x) /\ ((q287 x) = false -> (q286 x) = true) /\ ((q284 x) = false -> True) /\ ((q284 x) =
  false -> ((q284 x) == false) = true /\ List.length x.1 < q38 /\ (∀ (y : q4), (q47 y) -> y.1 = decide (q40 <= idxS x.1 (bs { data := #[(46 : UInt8), (46 : UInt8)] })) -> (y.1 = true -> false
  = localD x.1) /\ (y.1 = false -> ∃ (I : q7), ∃ (μ : q8), (q271 x I) /\ ∀ (y : q9) (z : Unit), (q83 y) -> True -> I y z -> (decide (y.1 < (lnZ x.1)) = true -> (q212 y x) /\ True /\ (∀ (y_1 :
  q4), (q47 y_1) -> y_1.1 = mcharD (q275 x y) -> ((!y_1.1) = true -> false = localD x.1) /\ (q268 y_1 x I y μ z)) /\ True) /\ (decide (y.1 < (lnZ x.1)) = false -> true = localD x.1))) /\
  True) /\ ((q284 x) = !false -> false = localD x.1)
theorem e161 : t161 = Con.vc c_host_local GL (mkEnv ty [(164, i164), (173, conSem c_strings_Contains)] [] [] [0, 2, 26]) {} Tryz.f161.ntmps Tryz.f161.results.toList (bodyOf Tryz.f161) := by kernel_rfl
theorem k161 : t161 := by
  unfold t161
  delta q5 q68 q84 q139 q136 q137 q289 q288 q64 q285 q283 q287 q286 q40 wrZ lnZ q417 q284 q38 q4 q47 q7 q8 q271 q9 q83 q212 q275 q268 wsZ q436 q379 q460 q461 wbZ wiZ q384 q493 q482
  rintro ⟨l, _⟩ hx hp
  have hp : l.length ≤ 1000000000 := hp
  try dsimp +instances only [dft_int, dft_sl, dft_str]
  simp only [true_and, and_true, eq_self_iff_true, implies_true, reduceCtorEq, false_implies, true_implies, decide_eq_true_eq, decide_eq_false_iff_not, beq_self_eq_true, Bool.not_eq_true', ne_eq, Decidable.not_not, List.nil_append, List.length_singleton, List.length_cons, List.length_nil, Nat.zero_add, Nat.add_zero, Nat.mul_one, and_self, beq_iff_eq, Bool.not_true, Bool.not_false, Bool.not_eq_false', Bool.cond_false_right, Bool.and_eq_true, imp_self, Bool.not_eq_true, Bool.cond_true_left, Bool.or_eq_true]
  have hb : bs { data := #[46, 46] } = [46, 46] := by decide
  rw [bs_nil, hb, idxS_dots]
  have hl0 : l = [] ↔ l.length = 0 := ⟨fun h => by rw [h]; rfl, List.eq_nil_of_length_eq_zero⟩
  have hw : IntKind.wrap .i64 ((l.length : Int) - 1) = l.length - 1 := wrapK _ (by omega) (by omega)
  have ht : ((l.length : Int) - 1).toNat = l.length - 1 := by omega
  rw [hw, ht]
  simp only [hl0, Bool.or_eq_false_iff, decide_eq_false_iff_not]
  refine ⟨fun h => ⟨h, by omega, by omega⟩, fun h => ⟨h, h, by omega, by omega⟩, fun h => ⟨h, by omega, ?_⟩, fun h => ?_⟩
  . rintro ⟨a, _⟩ _ ea
    simp only at ea ⊢
    have hl : localD l = (!dotsD l && l.all mcharD) := by
      rw [localD, decide_eq_true (by rw [Ne, hl0]; omega)]; rfl
    rw [hl, ← ea]
    refine ⟨fun h => by rw [h]; rfl, fun h => ?_⟩
    rw [h]
    show ∃ I μ, _
    refine ⟨fun y _ => 0 ≤ y.1 ∧ y.1 ≤ l.length ∧ ∀ j, j < y.1.toNat → mcharD (l.getD j 0) = true, fun y _ => ((l.length : Int) - y.1).toNat, ⟨by decide, by omega, fun j hj => by simp at hj⟩, ?_⟩
    rintro ⟨i, b, _⟩ _ _ ⟨i0, i1, i2⟩
    simp only at i0 i1 i2 ⊢
    have hw1 : IntKind.wrap .i64 (i + 1) = i + 1 := wrapK _ (by omega) (by omega)
    rw [hw1]
    refine ⟨fun hlt => ⟨⟨i0, hlt⟩, ?_⟩, fun hge => (all_get _ _ (fun j hj => i2 j (by omega))).symm⟩
    rintro ⟨c, _⟩ _ ec
    simp only at ec ⊢
    refine ⟨fun h => (all_not _ _ i.toNat (by omega) (ec.symm.trans h)).symm, fun h => ⟨⟨by omega, by omega, fun j hj => ?_⟩, by omega⟩⟩
    by_cases hji : j < i.toNat
    . exact i2 j hji
    . rw [show j = i.toNat by omega, ← ec]; exact h
  . rw [localD, decide_eq_false (fun hh => by rw [Ne, hl0] at hh; omega)]; rfl
theorem h161 : c_host_local.ok Tryz.prog GL 161 := con_ok (H := {}) (mkEnv_ok (gl := GL) (l := [(164, i164), (173, conSem c_strings_Contains)]) (q := []) (d := []) _ tyOk (by kernel_rfl) ⟨i164_ok, h173.call, trivial⟩ trivial trivial) (by kernel_rfl) (by kernel_rfl) (Eq.mp e161 k161)
noncomputable def i179 : CallSem → CallSem := vcSeq (mkEnv ty [(160, conSem c_strings_Cut)] [] [] [0, 1, 3, 4, 5, 17]) {} Tryz.f179.ntmps Tryz.f179.results.toList (bodyOf Tryz.f179)
theorem i179_ok : SeqOk Tryz.prog GL 179 i179 := seq_ok {} (mkEnv_ok (gl := GL) (l := [(160, conSem c_strings_Cut)]) (q := []) (d := []) _ tyOk (by kernel_rfl) ⟨h160.call, trivial⟩ trivial trivial) (by kernel_rfl) (by kernel_rfl)
noncomputable def i162 : CallSem := vcFn (mkEnv ty [] [] [] [0, 1, 2]) {} Tryz.f162.ntmps Tryz.f162.results.toList (bodyOf Tryz.f162)
theorem i162_ok : CallOk Tryz.prog GL 162 i162 := inl_ok {} (mkEnv_ok (gl := GL) (l := []) (q := []) (d := []) _ tyOk (by kernel_rfl) trivial trivial trivial) (by kernel_rfl) (by kernel_rfl)
def t131 : Prop :=
  ∀ (x : q5), (q68 x) -> List.length x.1 <= q84 -> q42 <= q69 /\ (decide ((253 : Int) < (lnZ x.1)) = true -> false = dnsD x.1) /\ (decide ((253 : Int) < (lnZ x.1)) = false -> q42 <= q69 /\
  List.length [SV.dat Kd.str x.1] <= q69 /\ (List.length x.1 < q38 /\ List.length q292 = q42) /\ (∀ (y : q3), (wsZ y.1 /\ wsZ y.2.1 /\ wbZ y.2.2.1 /\ True) -> y.1 = (q291 x).1 /\ y.2.1 =
  (q291 x).2.1 /\ y.2.2.1 = (q291 x).2.2 -> ∃ (I : Bool × List Int × List Int × Unit -> (Bool × Unit) × q193 × q193 × Unit -> Prop), ∃ (μ : Bool × List Int × List Int × Unit -> (Bool × Unit)
  × q193 × q193 × Unit -> Nat), (Value.bool false = Value.bool false /\ x.1 = x.1 /\ I (y.2.2.1, y.2.1, y.1, ()) ((false, ()), (bs { data := #[] }, ()), (x.1, ()), ())) /\ ∀ (y : Bool × List
  Int × List Int × Unit) (z : q27), (wbZ y.1 /\ wsZ y.2.1 /\ wsZ y.2.2.1 /\ True) -> (wbZ z.1.1 /\ True) /\ (wsZ z.2.1.1 /\ True) /\ (wsZ z.2.2.1.1 /\ True) /\ True -> I y z -> List.length
  y.2.2.1 <= q84 /\ (∀ (y_1 : q4), (q47 y_1) -> y_1.1 = labelD y.2.2.1 -> ((!y_1.1) = true -> false = dnsD x.1) /\ ((!y_1.1) = false -> (y.1 = true -> (List.length y.2.1 < q38 /\ List.length
  q292 = q42) /\ (∀ (y_2 : q3), (wsZ y_2.1 /\ wsZ y_2.2.1 /\ wbZ y_2.2.2.1 /\ True) -> y_2.1 = (q290 y).1 /\ y_2.2.1 = (q290 y).2.1 /\ y_2.2.2.1 = (q290 y).2.2 -> Value.bool false =
  Value.bool false /\ x.1 = x.1 /\ I (y_2.2.2.1, y_2.2.1, y_2.1, ()) ((z.1.1, ()), (y.2.2.1, ()), (z.2.2.1.1, ()), ()) /\ μ (y_2.2.2.1, y_2.2.1, y_2.1, ()) ((z.1.1, ()), (y.2.2.1, ()),
  (z.2.2.1.1, ()), ()) < μ y z) /\ True) /\ (y.1 = false -> ∃ (I : Int × Bool × Unit -> (Bool × Unit) × q193 × q193 × Unit -> Prop), ∃ (μ : Int × Bool × Unit -> (Bool × Unit) × q193 × q193 ×
  Unit -> Nat), ((lnZ y.2.2.1) = (lnZ y.2.2.1) /\ y.2.2.1 = y.2.2.1 /\ y.2.2.1 = y.2.2.1 /\ Value.bool false = Value.bool false /\ x.1 = x.1 /\ I (q40, false, ()) ((z.1.1, ()), (y.2.2.1, ()),
  (z.2.2.1.1, ()), ())) /\ ∀ (y_2 : q9) (z : q27), (q83 y_2) -> (wbZ z.1.1 /\ True) /\ (wsZ z.2.1.1 /\ True) /\ (wsZ z.2.2.1.1 /\ True) /\ True -> I y_2 z -> (decide (y_2.1 < (lnZ y.2.2.1)) =
  true -> (q40 <= y_2.1 /\ y_2.1 < (lnZ y.2.2.1)) /\ True /\ (∀ (y_3 : q4), (q47 y_3) -> y_3.1 = digitD (List.getD y.2.2.1 (q384 y_2) q40) -> ((!y_3.1) = true -> (!false) = dnsD x.1) /\
  ((!y_3.1) = false -> (lnZ y.2.2.1) = (lnZ y.2.2.1) /\ y.2.2.1 = y.2.2.1 /\ y.2.2.1 = y.2.2.1 /\ Value.bool false = Value.bool false /\ x.1 = x.1 /\ I (wrZ (q85 y_2), y_2.2.1, ()) ((z.1.1,
  ()), (z.2.1.1, ()), (z.2.2.1.1, ()), ()) /\ μ (wrZ (q85 y_2), y_2.2.1, ()) ((z.1.1, ()), (z.2.1.1, ()), (z.2.2.1.1, ()), ()) < μ y_2 z)) /\ True) /\ (decide (y_2.1 < (lnZ y.2.2.1)) = false
  -> (!true) = dnsD x.1)))) /\ True) /\ True)
theorem e131 : t131 = Con.vc c_host_DNS GL (mkEnv ty [(162, i162), (163, conSem c_host_label), (164, i164)] [(179, i179)] [] [0, 2, 3, 4, 7, 9, 10, 13]) {} Tryz.f131.ntmps Tryz.f131.results.toList (bodyOf Tryz.f131) := by kernel_rfl
theorem k131 : t131 := by
  unfold t131
  delta q5 q68 q84 q42 q69 lnZ q38 q292 q3 wsZ wbZ q291 q193 q27 q4 q47 q290 q40 q9 q83 q384 wrZ q85 q402 q379 wiZ q417
  rintro ⟨l, _⟩ hx hp
  have hp : l.length ≤ 1000000000 := hp
  try dsimp +instances only [dft_int, dft_sl, dft_str]
  simp only [true_and, and_true, eq_self_iff_true, implies_true, reduceCtorEq, false_implies, true_implies, decide_eq_true_eq, decide_eq_false_iff_not, beq_self_eq_true, Bool.not_eq_true', ne_eq, Decidable.not_not, List.nil_append, List.length_singleton, List.length_cons, List.length_nil, Nat.zero_add, Nat.add_zero, Nat.mul_one, and_self, beq_iff_eq, Bool.not_true, Bool.not_false, Bool.not_eq_false', Bool.cond_false_right, Bool.and_eq_true, imp_self, Bool.not_eq_true, Bool.cond_true_left, Bool.or_eq_true]
  have hb : bs { data := #[46] } = [46] := by decide
  have hd : ([46] : List Int).getD 0 0 = 46 := rfl
  rw [hb, hd, bs_nil]
  refine ⟨by decide, fun h => (dns_long (by omega)).symm, fun hn => ⟨by decide, by decide, ⟨by omega, rfl⟩, ?_⟩⟩
  rintro ⟨wd, rest, more, _⟩ _ ⟨e1, e2, e3⟩
  simp only at e1 e2 e3 ⊢
  have hcl := cutD_len l 46
  refine ⟨fun y _ => y.2.2.1.length ≤ l.length ∧ y.2.1.length ≤ l.length ∧ ∃ P, P.all labelD = true ∧ labelsD l = P ++ (y.2.2.1 :: if y.1 then labelsD y.2.1 else []), fun y _ => if y.1 then y.2.1.length + 1 else 0,
    ⟨by rw [e1]; exact hcl.1, by rw [e2]; exact hcl.2, [], rfl, by rw [e1, e2, e3]; exact labels_cut l⟩, ?_⟩
  rintro ⟨mo, re, w, _⟩ ⟨⟨z1, _⟩, ⟨z2, _⟩, ⟨z3, _⟩, _⟩ _ _ ⟨w1, w2, P, hP, hW⟩
  simp only at w1 w2 hW ⊢
  refine ⟨by omega, ?_⟩
  rintro ⟨b, _⟩ _ eb
  simp only at eb ⊢
  refine ⟨fun h => (dns_bad (w := w) (by rw [hW]; simp) (eb.symm.trans h)).symm, fun h => ⟨fun hm => ⟨⟨by omega, rfl⟩, ?_⟩, fun hm => ?_⟩⟩
  . rintro ⟨wd', re', mo', _⟩ _ ⟨f1, f2, f3⟩
    simp only at f1 f2 f3 ⊢
    have hcl := cutD_len re 46
    have hj := congrArg List.length (cutD_join re 46)
    rw [← f1, ← f2, ← f3] at hj
    rw [← f1, ← f2] at hcl
    refine ⟨⟨by omega, by omega, P ++ [w], ?_, ?_⟩, ?_⟩
    . rw [List.all_append, hP]
      simp [← eb, h]
    . rw [hW, hm, f1, f2, f3]
      simp only [if_true]
      rw [labels_cut re, List.append_assoc]
      rfl
    . rw [hm]
      simp only [if_true]
      split
      . rename_i hmo
        rw [hmo] at hj
        simp at hj
        omega
      . omega
  . have hWe : labelsD l = P ++ [w] := by rw [hW, hm]; rfl
    have hdn : dnsD l = !w.all digitD := by
      rw [dns_last (by omega) (by rw [hWe, List.all_append, hP]; simp [← eb, h]), hWe, last_snoc]
    rw [hdn]
    refine ⟨fun y _ => 0 ≤ y.1 ∧ y.1 ≤ w.length ∧ ∀ j, j < y.1.toNat → digitD (w.getD j 0) = true, fun y _ => ((w.length : Int) - y.1).toNat, ⟨Int.le_refl 0, by simp only; omega, fun j hj => by simp at hj⟩, ?_⟩
    rintro ⟨i, b2, _⟩ z _ _ ⟨i0, i1, i2⟩
    simp only at i0 i1 i2 ⊢
    have hw1 : IntKind.wrap .i64 (i + 1) = i + 1 := wrapK _ (by omega) (by omega)
    rw [hw1]
    refine ⟨fun hlt => ⟨⟨i0, hlt⟩, ?_⟩, fun hge => by rw [all_get _ _ (fun j hj => i2 j (by omega))]; rfl⟩
    rintro ⟨c, _⟩ _ ec
    simp only at ec ⊢
    refine ⟨fun h => by rw [all_not _ _ i.toNat (by omega) (ec.symm.trans h)]; rfl, fun h => ⟨⟨by omega, by omega, fun j hj => ?_⟩, by omega⟩⟩
    by_cases hji : j < i.toNat
    . exact i2 j hji
    . rw [show j = i.toNat by omega, ← ec]; exact h
theorem h131 : c_host_DNS.ok Tryz.prog GL 131 := con_ok (H := {}) (mkEnv_ok (gl := GL) (l := [(162, i162), (163, conSem c_host_label), (164, i164)]) (q := [(179, i179)]) (d := []) _ tyOk (by kernel_rfl) ⟨i162_ok, h163.call, i164_ok, trivial⟩ ⟨i179_ok, trivial⟩ trivial) (by kernel_rfl) (by kernel_rfl) (Eq.mp e131 k131)
def t137 : Prop :=
  ∀ (x : q5), (q68 x) -> List.length x.1 <= q84 -> ∃ (I : Int × Int × Unit -> List (List Int) × Unit -> Prop), ∃ (μ : Int × Int × Unit -> List (List Int) × Unit -> Nat), (Value.slice none q71
  q71 = Value.slice none q71 q71 /\ x.1 = x.1 /\ I (q40, q40, ()) ([], ())) /\ ∀ (y : q6) (z : q15), (q94 y) -> (Kd.wf (Kd.sl Kd.str) z.1 /\ True) -> I y z -> (decide (y.1 < (lnZ x.1)) = true
  -> (q40 <= y.1 /\ y.1 < (lnZ x.1)) /\ (decide (List.getD x.1 (Int.toNat y.1) q40 = (46 : Int)) = true -> (q40 <= y.2.1 /\ y.2.1 <= y.1 /\ y.1 <= (lnZ x.1)) /\ q71 < q42 /\ (List.length z.1
  + List.length [List.drop (Int.toNat y.2.1) (List.take (Int.toNat y.1) x.1)]) * (16 : Nat) <= q159 /\ List.length z.1 + List.length [List.drop (Int.toNat y.2.1) (List.take (Int.toNat y.1)
  x.1)] <= q158 /\ Value.slice none q71 q71 = Value.slice none q71 q71 /\ x.1 = x.1 /\ I (wrZ (q95 y), wrZ (q95 y), ()) (z.1 ++ [List.drop (Int.toNat y.2.1) (List.take (Int.toNat y.1) x.1)],
  ()) /\ μ (wrZ (q95 y), wrZ (q95 y), ()) (z.1 ++ [List.drop (Int.toNat y.2.1) (List.take (Int.toNat y.1) x.1)], ()) < μ y z) /\ (decide (List.getD x.1 (Int.toNat y.1) q40 = (46 : Int)) =
  false -> Value.slice none q71 q71 = Value.slice none q71 q71 /\ x.1 = x.1 /\ I (wrZ (q95 y), y.2.1, ()) (z.1, ()) /\ μ (wrZ (q95 y), y.2.1, ()) (z.1, ()) < μ y z)) /\ (decide (y.1 < (lnZ
  x.1)) = false -> (q40 <= y.2.1 /\ y.2.1 <= (lnZ x.1)) /\ q71 < q42 /\ (List.length z.1 + List.length [List.drop (Int.toNat y.2.1) x.1]) * (16 : Nat) <= q159 /\ List.length z.1 + List.length
  [List.drop (Int.toNat y.2.1) x.1] <= q158 /\ z.1 ++ [List.drop (Int.toNat y.2.1) x.1] = labelsD x.1)
theorem e137 : t137 = Con.vc c_r13_Labels GL (mkEnv ty [] [] [] [0, 2, 3, 4, 5, 9, 15]) {} Tryz.f137.ntmps Tryz.f137.results.toList (bodyOf Tryz.f137) := by kernel_rfl
theorem k137 : t137 := by
  unfold t137
  delta q5 q68 q84 q71 q40 q6 q15 q94 lnZ q42 q159 q158 wrZ q95 wsZ wiZ q417
  rintro ⟨l, _⟩ hx hp
  have hp : l.length ≤ 1000000000 := hp
  try dsimp +instances only [dft_int, dft_sl, dft_str]
  simp only [true_and, and_true, eq_self_iff_true, implies_true, reduceCtorEq, false_implies, true_implies, decide_eq_true_eq, decide_eq_false_iff_not, beq_self_eq_true, Bool.not_eq_true', ne_eq, Decidable.not_not, List.nil_append, List.length_singleton, List.length_cons, List.length_nil, Nat.zero_add, Nat.add_zero, Nat.mul_one, and_self, beq_iff_eq, Bool.not_true, Bool.not_false, Bool.not_eq_false', Bool.cond_false_right, Bool.and_eq_true, imp_self, Bool.not_eq_true, Bool.cond_true_left, Bool.or_eq_true]
  refine ⟨fun y z => 0 ≤ y.2.1 ∧ y.2.1 ≤ y.1 ∧ y.1 ≤ l.length ∧ (z.1.length : Int) ≤ y.1 ∧ labelsD l = z.1 ++ splitA 46 ((l.take y.1.toNat).drop y.2.1.toNat) (l.drop y.1.toNat), fun y _ => ((l.length : Int) - y.1).toNat, ⟨Int.le_refl 0, Int.le_refl 0, by simp only; omega, by simp, rfl⟩, ?_⟩
  rintro ⟨i, f, _⟩ ⟨z, _⟩ _ _ ⟨f0, f1, i1, z1, hW⟩
  simp only at f0 f1 i1 z1 hW ⊢
  have hw1 : IntKind.wrap .i64 (i + 1) = i + 1 := wrapK _ (by omega) (by omega)
  rw [hw1]
  refine ⟨fun hlt => ⟨⟨by omega, hlt⟩, fun hc => ⟨⟨f0, f1, i1⟩, by decide, by omega, by omega, ⟨by omega, by omega, by omega, by simp; omega, ?_⟩, by omega⟩, fun hc => ⟨⟨f0, by omega, by omega, by omega, ?_⟩, by omega⟩⟩, fun hge => ⟨⟨f0, by omega⟩, by decide, by omega, by omega, ?_⟩⟩
  . rw [hW, drop_cons l i.toNat (by omega), hc, splitA, if_pos rfl, List.append_assoc, show (i + 1).toNat = i.toNat + 1 by omega, List.drop_of_length_le (by simp; omega : (l.take (i.toNat + 1)).length ≤ i.toNat + 1)]
    rfl
  . rw [hW, drop_cons l i.toNat (by omega), splitA, if_neg hc, show (i + 1).toNat = i.toNat + 1 by omega, take_snoc l i.toNat (by omega), List.drop_append_of_le_length (by simp; omega)]
  . rw [hW, List.drop_of_length_le (by omega : l.length ≤ i.toNat), List.take_of_length_le (by omega : l.length ≤ i.toNat)]
    rfl
theorem h137 : c_r13_Labels.ok Tryz.prog GL 137 := con_ok (H := {}) (mkEnv_ok (gl := GL) (l := []) (q := []) (d := []) _ tyOk (by kernel_rfl) trivial trivial trivial) (by kernel_rfl) (by kernel_rfl) (Eq.mp e137 k137)
def t96 : Prop :=
  ∀ (x : q5), (q68 x) -> List.length x.1 <= q84 -> (decide ((253 : Int) < (lnZ x.1)) = true -> false = dnsD x.1) /\ (decide ((253 : Int) < (lnZ x.1)) = false -> List.length x.1 <= q84 /\ (∀
  (y : q15), (Kd.wf (Kd.sl Kd.str) y.1 /\ True) -> y.1 = labelsD x.1 -> ∃ (I : q7), ∃ (μ : q8), (Value.bool false = Value.bool false /\ x.1 = x.1 /\ y.1 = y.1 /\ I (q40, false, ()) ()) /\ ∀
  (y_1 : q9) (z : Unit), (q83 y_1) -> True -> I y_1 z -> (decide (y_1.1 < (lnZ y.1)) = true -> (q40 <= y_1.1 /\ y_1.1 < (lnZ y.1)) /\ List.length (List.getD y.1 (q384 y_1) (Kd.dft Kd.str)) <=
  q84 /\ (∀ (y_2 : q4), (q47 y_2) -> y_2.1 = labelD (List.getD y.1 (q384 y_1) (Kd.dft Kd.str)) -> ((!y_2.1) = true -> false = dnsD x.1) /\ ((!y_2.1) = false -> Value.bool false = Value.bool
  false /\ x.1 = x.1 /\ y.1 = y.1 /\ I (wrZ (q85 y_1), y_1.2.1, ()) () /\ μ (wrZ (q85 y_1), y_1.2.1, ()) () < μ y_1 z)) /\ True) /\ (decide (y_1.1 < (lnZ y.1)) = false -> (q40 <= wrZ ((lnZ
  y.1) - q417) /\ wrZ ((lnZ y.1) - q417) < (lnZ y.1)) /\ ∃ (I : q7), ∃ (μ : q8), (List.getD y.1 (q294 y) (Kd.dft Kd.str) = List.getD y.1 (q294 y) (Kd.dft Kd.str) /\ Value.bool false =
  Value.bool false /\ y_1.1 = y_1.1 /\ Value.bool false = Value.bool false /\ x.1 = x.1 /\ y.1 = y.1 /\ I (q40, y_1.2.1, ()) ()) /\ ∀ (y_2 : q9) (z : Unit), (q83 y_2) -> True -> I y_2 z ->
  (decide (y_2.1 < (q293 y)) = true -> (q40 <= y_2.1 /\ y_2.1 < (q293 y)) /\ True /\ (∀ (y_3 : q4), (q47 y_3) -> y_3.1 = digitD (List.getD (List.getD y.1 (Int.toNat (wrZ ((lnZ y.1) - q417)))
  (Kd.dft Kd.str)) (q384 y_2) q40) -> ((!y_3.1) = true -> true = dnsD x.1) /\ ((!y_3.1) = false -> List.getD y.1 (q294 y) (Kd.dft Kd.str) = List.getD y.1 (q294 y) (Kd.dft Kd.str) /\
  Value.bool false = Value.bool false /\ y_1.1 = y_1.1 /\ Value.bool false = Value.bool false /\ x.1 = x.1 /\ y.1 = y.1 /\ I (wrZ (q85 y_2), y_2.2.1, ()) () /\ μ (wrZ (q85 y_2), y_2.2.1, ())
  () < μ y_2 z)) /\ True) /\ (decide (y_2.1 < (q293 y)) = false -> false = dnsD x.1))) /\ True)
theorem e96 : t96 = Con.vc c_r13_DNS GL (mkEnv ty [(137, conSem c_r13_Labels), (138, conSem c_r13_isLabel), (139, conSem c_r13_digit)] [] [] [0, 2, 3, 4, 5, 6, 9, 15, 23, 33, 40]) {} Tryz.f96.ntmps Tryz.f96.results.toList (bodyOf Tryz.f96) := by kernel_rfl
theorem k96 : t96 := by
  unfold t96
  delta q5 q68 q84 lnZ q15 q7 q8 q40 q9 q83 q384 q4 q47 wrZ q85 q417 q294 q293 wsZ wiZ wbZ
  rintro ⟨l, _⟩ hx hp
  have hp : l.length ≤ 1000000000 := hp
  try dsimp +instances only [dft_int, dft_sl, dft_str]
  simp only [true_and, and_true, eq_self_iff_true, implies_true, reduceCtorEq, false_implies, true_implies, decide_eq_true_eq, decide_eq_false_iff_not, beq_self_eq_true, Bool.not_eq_true', ne_eq, Decidable.not_not, List.nil_append, List.length_singleton, List.length_cons, List.length_nil, Nat.zero_add, Nat.add_zero, Nat.mul_one, and_self, beq_iff_eq, Bool.not_true, Bool.not_false, Bool.not_eq_false', Bool.cond_false_right, Bool.and_eq_true, imp_self, Bool.not_eq_true, Bool.cond_true_left, Bool.or_eq_true]
  refine ⟨fun h => (dns_long (by omega)).symm, fun hn => ⟨hp, ?_⟩⟩
  rintro ⟨W, _⟩ _ eW
  simp only at eW ⊢
  have hWl := labels_len l
  rw [← eW] at hWl
  have hmem : ∀ i, i < W.length → W.getD i [] ∈ labelsD l := fun i hi => by rw [← eW]; exact mem_getD [] W i hi
  refine ⟨fun y _ => 0 ≤ y.1 ∧ y.1 ≤ W.length ∧ ∀ j, j < y.1.toNat → labelD (W.getD j []) = true, fun y _ => ((W.length : Int) - y.1).toNat, ⟨Int.le_refl 0, by simp only; omega, fun j hj => by simp at hj⟩, ?_⟩
  rintro ⟨i, b, _⟩ _ _ ⟨i0, i1, i2⟩
  simp only at i0 i1 i2 ⊢
  have hw1 : IntKind.wrap .i64 (i + 1) = i + 1 := wrapK _ (by omega) (by omega)
  have hw2 : IntKind.wrap .i64 ((W.length : Int) - 1) = W.length - 1 := wrapK _ (by omega) (by omega)
  have hw3 : ((W.length : Int) - 1).toNat = W.length - 1 := by omega
  rw [hw1, hw2, hw3]
  refine ⟨fun hlt => ⟨⟨i0, hlt⟩, ?_, ?_⟩, fun hge => ⟨⟨by omega, by omega⟩, ?_⟩⟩
  . have := labelH_len (hmem i.toNat (by omega))
    omega
  . rintro ⟨c, _⟩ _ ec
    simp only at ec ⊢
    refine ⟨fun h => (dns_bad (hmem i.toNat (by omega)) (ec.symm.trans h)).symm, fun h => ⟨⟨by omega, by omega, fun j hj => ?_⟩, by omega⟩⟩
    by_cases hji : j < i.toNat
    . exact i2 j hji
    . rw [show j = i.toNat by omega, ← ec]; exact h
  . have hdn : dnsD l = !(W.getD (W.length - 1) []).all digitD := by
      rw [dns_last (by omega) (by rw [← eW]; exact all_getA [] _ _ (fun j hj => i2 j (by omega))), ← eW, last_get W hWl.2]
    rw [hdn]
    have hll := labelH_len (hmem (W.length - 1) (by omega))
    generalize W.getD (W.length - 1) [] = w at hll ⊢
    refine ⟨fun y _ => 0 ≤ y.1 ∧ y.1 ≤ w.length ∧ ∀ j, j < y.1.toNat → digitD (w.getD j 0) = true, fun y _ => ((w.length : Int) - y.1).toNat, ⟨Int.le_refl 0, by simp only; omega, fun j hj => by simp at hj⟩, ?_⟩
    rintro ⟨i, b2, _⟩ z _ ⟨i0, i1, i2⟩
    simp only at i0 i1 i2 ⊢
    have hw1 : IntKind.wrap .i64 (i + 1) = i + 1 := wrapK _ (by omega) (by omega)
    rw [hw1]
    refine ⟨fun hlt => ⟨⟨i0, hlt⟩, ?_⟩, fun hge => by rw [all_get _ _ (fun j hj => i2 j (by omega))]; rfl⟩
    rintro ⟨c, _⟩ _ ec
    simp only at ec ⊢
    refine ⟨fun h => by rw [all_not _ _ i.toNat (by omega) (ec.symm.trans h)]; rfl, fun h => ⟨⟨by omega, by omega, fun j hj => ?_⟩, by omega⟩⟩
    by_cases hji : j < i.toNat
    . exact i2 j hji
    . rw [show j = i.toNat by omega, ← ec]; exact h
theorem h96 : c_r13_DNS.ok Tryz.prog GL 96 := con_ok (H := {}) (mkEnv_ok (gl := GL) (l := [(137, conSem c_r13_Labels), (138, conSem c_r13_isLabel), (139, conSem c_r13_digit)]) (q := []) (d := []) _ tyOk (by kernel_rfl) ⟨h137.call, h138.call, h139.call, trivial⟩ trivial trivial) (by kernel_rfl) (by kernel_rfl) (Eq.mp e96 k96)
def t146 : Prop :=
  ∀ (x : q5), (q68 x) -> List.length x.1 <= q84 -> True /\ (∀ (y : List Int × Bool × Unit), (wsZ y.1 /\ wbZ y.2.1 /\ True) -> (y.1 = if hasP q296 x.1 = true then List.drop (List.length q296)
  x.1 else x.1) /\ y.2.1 = hasP q296 x.1 -> (y.2.1 = true -> True) /\ (y.2.1 = true -> (y.2.1 == true) = true /\ True) /\ (y.2.1 = true -> (y.2.1 == true) = true /\ True) /\ (y.2.1 = true ->
  (y.2.1 == true) = true) /\ ((q295 y x) = true -> True) /\ ((q295 y x) = true -> ((q295 y x) == true) = true /\ List.length y.1 < q38 /\ (∀ (y_1 : q4), (q47 y_1) -> y_1.1 = decide (q40 <=
  idxS y.1 q292) -> (y_1.1 = true -> True) /\ (y_1.1 = true -> (y_1.1 == true) = true /\ List.length y.1 <= q84 /\ (∀ (y_2 : q4), (q47 y_2) -> y_2.1 = dnsD y.1 -> y_2.1 = wildD x.1) /\ True)
  /\ (y_1.1 = !true -> false = wildD x.1)) /\ True) /\ ((q295 y x) = !true -> false = wildD x.1)) /\ True
theorem e146 : t146 = Con.vc c_host_Wild GL (mkEnv ty [(172, conSem c_strings_CutPrefix), (173, conSem c_strings_Contains), (131, conSem c_host_DNS)] [] [] [0, 2, 3, 4]) {} Tryz.f146.ntmps Tryz.f146.results.toList (bodyOf Tryz.f146) := by kernel_rfl
theorem k146 : t146 := by
  unfold t146
  delta q5 q68 q84 wsZ wbZ q296 q295 q38 q4 q47 q40 q292 lnZ
  rintro ⟨l, _⟩ hx hp
  have hp : l.length ≤ 1000000000 := hp
  try dsimp +instances only [dft_int, dft_sl, dft_str]
  simp only [true_and, and_true, eq_self_iff_true, implies_true, reduceCtorEq, false_implies, true_implies, decide_eq_true_eq, decide_eq_false_iff_not, beq_self_eq_true, Bool.not_eq_true', ne_eq, Decidable.not_not, List.nil_append, List.length_singleton, List.length_cons, List.length_nil, Nat.zero_add, Nat.add_zero, Nat.mul_one, and_self, beq_iff_eq, Bool.not_true, Bool.not_false, Bool.not_eq_false', Bool.cond_false_right, Bool.and_eq_true, imp_self, Bool.not_eq_true, Bool.cond_true_left, Bool.or_eq_true]
  have hb : bs { data := #[46] } = [46] := by decide
  have hb2 : bs { data := #[42, 46] } = [42, 46] := by decide
  rw [hb, hb2]
  rintro ⟨a, b, _⟩ _ ⟨ea, eb⟩
  simp only at ea eb ⊢
  have hal : a.length ≤ l.length := by rw [ea]; split <;> simp
  refine ⟨fun h => ⟨h, by omega, ?_⟩, fun h => ?_⟩
  . have hh : hasP [42, 46] l = true := eb.symm.trans h.1
    rw [if_pos hh] at ea
    have ea : a = l.drop 2 := ea
    rintro ⟨c, _⟩ _ ec
    simp only at ec ⊢
    rw [contains_one, ea] at ec
    have hwd : wildD l = (c && dnsD a) := by
      rw [wildD, hh, decide_eq_true (show l.length ≤ 253 by omega), ← ec, ← ea]; rfl
    rw [hwd]
    refine ⟨fun hc => ⟨hc, by omega, ?_⟩, fun hc => by rw [hc]; rfl⟩
    rintro ⟨d, _⟩ _ ed
    simp only at ed ⊢
    rw [hc, ed]; rfl
  . rw [eb] at h
    rw [wildD, ← Bool.and_assoc, show decide (l.length ≤ 253) = decide ((l.length : Int) ≤ 253) from decide_eq_decide.2 (by omega), h]; rfl
theorem h146 : c_host_Wild.ok Tryz.prog GL 146 := con_ok (H := {}) (mkEnv_ok (gl := GL) (l := [(172, conSem c_strings_CutPrefix), (173, conSem c_strings_Contains), (131, conSem c_host_DNS)]) (q := []) (d := []) _ tyOk (by kernel_rfl) ⟨h172.call, h173.call, h131.call, trivial⟩ trivial trivial) (by kernel_rfl) (by kernel_rfl) (Eq.mp e146 k146)
def t130 : Prop :=
  ∀ (x : q5), (q68 x) -> List.length x.1 <= q84 -> (List.length x.1 < q38 /\ List.length (bs { data := #[(64 : UInt8)] }) = q42) /\ (∀ (y : q3), (wsZ y.1 /\ wsZ y.2.1 /\ wbZ y.2.2.1 /\ True)
  -> y.1 = (q297 x).1 /\ y.2.1 = (q297 x).2.1 /\ y.2.2.1 = (q297 x).2.2 -> (y.2.2.1 = true -> True) /\ (y.2.2.1 = true -> (y.2.2.1 == true) = true /\ List.length y.1 <= q84 /\ (∀ (y_1 : q4),
  (q47 y_1) -> y_1.1 = localD y.1 -> (y_1.1 = true -> True) /\ (y_1.1 = true -> (y_1.1 == true) = true /\ List.length y.2.1 <= q84 /\ (∀ (y_2 : q4), (q47 y_2) -> y_2.1 = dnsD y.2.1 -> y_2.1 =
  emailD x.1) /\ True) /\ (y_1.1 = !true -> false = emailD x.1)) /\ True) /\ (y.2.2.1 = !true -> false = emailD x.1)) /\ True
theorem e130 : t130 = Con.vc c_host_Email GL (mkEnv ty [(160, conSem c_strings_Cut), (161, conSem c_host_local), (131, conSem c_host_DNS)] [] [] [0, 2, 3, 4, 5]) {} Tryz.f130.ntmps Tryz.f130.results.toList (bodyOf Tryz.f130) := by kernel_rfl
theorem k130 : t130 := by
  unfold t130
  delta q5 q68 q84 q38 q42 q3 wsZ wbZ q297 q4 q47 q402 q379
  rintro ⟨l, _⟩ hx hp
  have hp : l.length ≤ 1000000000 := hp
  try dsimp +instances only [dft_int, dft_sl, dft_str]
  simp only [true_and, and_true, eq_self_iff_true, implies_true, reduceCtorEq, false_implies, true_implies, decide_eq_true_eq, decide_eq_false_iff_not, beq_self_eq_true, Bool.not_eq_true', ne_eq, Decidable.not_not, List.nil_append, List.length_singleton, List.length_cons, List.length_nil, Nat.zero_add, Nat.add_zero, Nat.mul_one, and_self, beq_iff_eq, Bool.not_true, Bool.not_false, Bool.not_eq_false', Bool.cond_false_right, Bool.and_eq_true, imp_self, Bool.not_eq_true, Bool.cond_true_left, Bool.or_eq_true]
  have hb : bs { data := #[64] } = [64] := by decide
  have hd : ([64] : List Int).getD 0 0 = 64 := rfl
  rw [hb, hd]
  have hcl := cutD_len l 64
  refine ⟨⟨by omega, rfl⟩, ?_⟩
  rintro ⟨a, b, c, _⟩ _ ⟨ea, eb, ec⟩
  simp only at ea eb ec ⊢
  have he : emailD l = (c && (localD a && dnsD b)) := by rw [emailD, ea, eb, ec]
  rw [he]
  rw [← ea, ← eb] at hcl
  refine ⟨fun h => ⟨h, by omega, ?_⟩, fun h => by rw [h]; rfl⟩
  rintro ⟨u, _⟩ _ eu
  simp only at eu ⊢
  rw [h, ← eu]
  refine ⟨fun h => ⟨h, by omega, ?_⟩, fun h => by rw [h]; rfl⟩
  rintro ⟨v, _⟩ _ ev
  simp only at ev ⊢
  rw [h, ev]; rfl
theorem h130 : c_host_Email.ok Tryz.prog GL 130 := con_ok (H := {}) (mkEnv_ok (gl := GL) (l := [(160, conSem c_strings_Cut), (161, conSem c_host_local), (131, conSem c_host_DNS)]) (q := []) (d := []) _ tyOk (by kernel_rfl) ⟨h160.call, h161.call, h131.call, trivial⟩ trivial trivial) (by kernel_rfl) (by kernel_rfl) (Eq.mp e130 k130)
def t97 : Prop :=
  ∀ (x : q5), (q68 x) -> List.length x.1 <= q84 -> ∃ (I : Int × Unit -> Unit -> Prop), ∃ (μ : Int × Unit -> Unit -> Nat), (Value.bool false = Value.bool false /\ x.1 = x.1 /\ I (q40, ()) ())
  /\ ∀ (y : q1) (z : Unit), (q36 y) -> True -> I y z -> (decide (y.1 < (lnZ x.1)) = true -> True) /\ (decide (y.1 < (lnZ x.1)) = true -> True) /\ (decide (y.1 < (lnZ x.1)) = true -> (decide
  (y.1 < (lnZ x.1)) == true) = true /\ (decide (y.1 < (lnZ x.1)) == true) = true /\ (q40 <= y.1 /\ y.1 < (lnZ x.1)) /\ True) /\ (decide (y.1 < (lnZ x.1)) = true -> (decide (y.1 < (lnZ x.1))
  == true) = true /\ True) /\ (decide (y.1 < (lnZ x.1)) = true -> (decide (y.1 < (lnZ x.1)) == true) = true) /\ ((bif decide (y.1 < (lnZ x.1)) then decide (List.getD x.1 (q377 y) q40 ≠ (64 :
  Int)) else false) = true -> Value.bool false = Value.bool false /\ x.1 = x.1 /\ I (wrZ (q217 y), ()) () /\ μ (wrZ (q217 y), ()) () < μ y z) /\ ((bif decide (y.1 < (lnZ x.1)) then decide
  (List.getD x.1 (q377 y) q40 ≠ (64 : Int)) else false) = false -> ∃ (J : Bool × Unit -> Unit -> Prop), ((decide (y.1 = (lnZ x.1)) = false -> True) /\ (decide (y.1 = (lnZ x.1)) = false ->
  (decide (y.1 = (lnZ x.1)) == false) = true /\ True) /\ (decide (y.1 = (lnZ x.1)) = false -> (decide (y.1 = (lnZ x.1)) == false) = true) /\ ((q314 y x) = false -> True) /\ ((q314 y x) =
  false -> ((q314 y x) == false) = true /\ True) /\ ((q314 y x) = false -> ((q314 y x) == false) = true) /\ ((q311 y x) = false -> True) /\ ((q311 y x) = false -> (q310 y x) = true /\ (q64 x)
  /\ True) /\ ((q311 y x) = false -> (q310 y x) = true /\ True) /\ ((q311 y x) = false -> (q310 y x) = true) /\ (q303 y x) /\ (q303 y x) /\ (q298 y x) /\ ((q305 y x) = false -> (q304 y x) =
  true /\ (q304 y x) = true /\ (q40 <= wrZ (y.1 - q72) /\ wrZ (y.1 - q72) < (lnZ x.1)) /\ True) /\ (q298 y x) /\ ((q305 y x) = false -> (q304 y x) = true) /\ ((q300 y x) = true -> false =
  emailD x.1) /\ ((q300 y x) = false -> Value.bool false = Value.bool false /\ y.1 = y.1 /\ x.1 = x.1 /\ J (false, ()) ())) /\ ∀ (u : q4) (z : Unit), (q47 u) -> True -> J u z -> ∃ (I : q7), ∃
  (μ : q8), (Value.bool false = Value.bool false /\ y.1 = y.1 /\ x.1 = x.1 /\ I (q40, u.1, ()) ()) /\ ∀ (y_1 : q9) (z : Unit), (q83 y_1) -> True -> I y_1 z -> (decide (y_1.1 < y.1) = true ->
  (q212 y_1 x) /\ ∃ (J : Bool × Unit -> Unit -> Prop), (True /\ (∀ (y_2 : q4), (q47 y_2) -> y_2.1 = letterD (q275 x y_1) -> ((!y_2.1) = true -> True) /\ ((!y_2.1) = true -> ((!y_2.1) == true)
  = true /\ True /\ (∀ (y_3 : q4), (q47 y_3) -> y_3.1 = digitD (q275 x y_1) -> ((!y_3.1) = true -> True) /\ ((!y_3.1) = true -> ((!y_3.1) == true) = true /\ True) /\ ((!y_3.1) = true ->
  ((!y_3.1) == true) = true) /\ ((q312 y_3 x y_1) = true -> True) /\ ((q312 y_3 x y_1) = true -> ((q312 y_3 x y_1) == true) = true /\ True) /\ ((q312 y_3 x y_1) = true -> ((q312 y_3 x y_1) ==
  true) = true) /\ ((q307 y_3 x y_1) = true -> True) /\ ((q307 y_3 x y_1) = true -> (q306 y_3 x y_1) = true /\ True) /\ ((q307 y_3 x y_1) = true -> (q306 y_3 x y_1) = true) /\ ((q302 y_3 x
  y_1) = true -> True) /\ ((q302 y_3 x y_1) = true -> (q301 y_3 x y_1) = true /\ True) /\ ((q302 y_3 x y_1) = true -> (q301 y_3 x y_1) = true) /\ ((q299 y_3 x y_1) = true -> false = emailD
  x.1) /\ ((q299 y_3 x y_1) = false -> List.getD x.1 (q384 y_1) q40 = List.getD x.1 (q384 y_1) q40 /\ Value.bool true = Value.bool true /\ y_1.1 = y_1.1 /\ Value.bool false = Value.bool false
  /\ y.1 = y.1 /\ x.1 = x.1 /\ J (y_1.2.1, ()) ())) /\ True) /\ ((!y_2.1) = !true -> List.getD x.1 (q384 y_1) q40 = List.getD x.1 (q384 y_1) q40 /\ Value.bool true = Value.bool true /\ y_1.1
  = y_1.1 /\ Value.bool false = Value.bool false /\ y.1 = y.1 /\ x.1 = x.1 /\ J (y_1.2.1, ()) ())) /\ True) /\ ∀ (u : q4) (z_1 : Unit), (q47 u) -> True -> J u z_1 -> (decide (q315 x y_1) =
  true -> True) /\ (decide (q315 x y_1) = true -> True) /\ (q309 x y_1) /\ (decide (q315 x y_1) = true -> (q313 x y_1) = true /\ (q313 x y_1) = true /\ (q40 <= wrZ (q85 y_1) /\ wrZ (q85 y_1)
  < (lnZ x.1)) /\ True) /\ (q309 x y_1) /\ (decide (q315 x y_1) = true -> (q313 x y_1) = true) /\ ((q308 x y_1) = true -> false = emailD x.1) /\ ((q308 x y_1) = false -> Value.bool false =
  Value.bool false /\ y.1 = y.1 /\ x.1 = x.1 /\ I (wrZ (q85 y_1), u.1, ()) () /\ μ (wrZ (q85 y_1), u.1, ()) () < μ y_1 z)) /\ (decide (y_1.1 < y.1) = false -> (q40 <= wrZ (q217 y) /\ wrZ
  (q217 y) <= (lnZ x.1)) /\ List.length (List.drop (Int.toNat (wrZ (q217 y))) x.1) <= q84 /\ (∀ (y_2 : q4), (q47 y_2) -> y_2.1 = dnsD (List.drop (Int.toNat (wrZ (q217 y))) x.1) -> y_2.1 =
  emailD x.1) /\ True))
theorem e97 : t97 = Con.vc c_r13_Email GL (mkEnv ty [(140, conSem c_r13_letter), (139, conSem c_r13_digit), (96, conSem c_r13_DNS)] [] [] [0, 2, 3, 4, 5, 15, 41, 44, 73, 82]) {joins := [6,12]} Tryz.f97.ntmps Tryz.f97.results.toList (bodyOf Tryz.f97) := by kernel_rfl
theorem k97 : t97 := by
  unfold t97
  delta q5 q68 q84 q40 q1 q36 lnZ q377 wrZ q217 q314 q311 q310 q64 q303 q298 q305 q304 q72 q300 q4 q47 q7 q8 q9 q83 q212 q275 q312 q307 q306 q302 q301 q299 q384 q315 q309 q313 q85 q308 wsZ wiZ q417 q379 q462 q461 wbZ q463 q464 q496 q465 q493 q482
  rintro ⟨l, _⟩ hx hp
  have hp : l.length ≤ 1000000000 := hp
  try dsimp +instances only [dft_int, dft_sl, dft_str]
  simp only [true_and, and_true, eq_self_iff_true, implies_true, reduceCtorEq, false_implies, true_implies, decide_eq_true_eq, decide_eq_false_iff_not, beq_self_eq_true, Bool.not_eq_true', ne_eq, Decidable.not_not, List.nil_append, List.length_singleton, List.length_cons, List.length_nil, Nat.zero_add, Nat.add_zero, Nat.mul_one, and_self, beq_iff_eq, Bool.not_true, Bool.not_false, Bool.not_eq_false', Bool.cond_false_right, Bool.and_eq_true, imp_self, Bool.not_eq_true, Bool.cond_true_left, Bool.or_eq_true]
  refine ⟨fun y _ => 0 ≤ y.1 ∧ y.1 ≤ l.length ∧ ∀ j, j < y.1.toNat → l.getD j 0 ≠ 64, fun y _ => ((l.length : Int) - y.1).toNat, ⟨Int.le_refl 0, by simp only; omega, fun j hj => by simp at hj⟩, ?_⟩
  rintro ⟨n, _⟩ _ _ ⟨n0, n1, n2⟩
  simp only at n0 n1 n2 ⊢
  have hw1 : n < l.length → IntKind.wrap .i64 (n + 1) = n + 1 := fun _ => wrapK _ (by omega) (by omega)
  have hw2 : IntKind.wrap .i64 (n - 1) = n - 1 := wrapK _ (by omega) (by omega)
  rw [hw2]
  refine ⟨fun h => ⟨h, h, n0, h⟩, fun h => ?_, fun h => ?_⟩
  . rw [hw1 h.1]
    refine ⟨⟨by omega, by omega, fun j hj => ?_⟩, by omega⟩
    by_cases hji : j < n.toNat
    . exact n2 j hji
    . rw [show j = n.toNat by omega]; exact h.2
  have none : n = l.length → emailD l = false := fun e => email_none (fun hc => by
    obtain ⟨j, hj, hx⟩ := List.getElem_of_mem hc
    refine n2 j (by omega) ?_
    rw [List.getD_eq_getElem?_getD, List.getElem?_eq_getElem hj]
    exact hx)
  have some : n ≠ l.length → emailD l = (localD (l.take n.toNat) && dnsD (l.drop (n.toNat + 1))) := fun e => by
    have h64 : l.getD n.toNat 0 = 64 := by
      simp only [Bool.and_eq_false_iff, decide_eq_false_iff_not] at h
      rcases h with h | h
      . omega
      . exact Classical.not_not.1 h
    exact email_at (by omega) h64 n2
  have htl : n ≠ l.length → (l.take n.toNat).length = n.toNat := fun e => by rw [List.length_take]; omega
  have htg : ∀ j, j < n.toNat → (l.take n.toNat).getD j 0 = l.getD j 0 := fun j hj => getD_take l _ j hj
  have hnil : n ≠ l.length → (l.take n.toNat = [] ↔ n = 0) := fun e => ⟨fun h => by have := congrArg List.length h; rw [htl e] at this; simp at this; omega, fun h => by rw [h]; rfl⟩
  simp only [Bool.or_eq_false_iff, decide_eq_false_iff_not]
  refine ⟨fun _ _ => n ≠ l.length ∧ 1 ≤ n ∧ n ≤ 64 ∧ l.getD 0 0 ≠ 46 ∧ l.getD (n.toNat - 1) 0 ≠ 46, ⟨fun h => ⟨h, by decide, by omega⟩, fun h => ⟨h, h, by omega, by omega⟩, fun h => ?_, fun h => ⟨h.1.1.1.1, by omega, by omega, h.1.2, by rw [show n.toNat - 1 = (n - 1).toNat by omega]; exact h.2⟩⟩, ?_⟩
  . refine Eq.symm ?_
    by_cases e : n = l.length
    . exact none e
    . have hl0 : localD (l.take n.toNat) = false := by
        have key : ¬ (l.take n.toNat ≠ [] ∧ (l.take n.toNat).length ≤ 64 ∧ (l.take n.toNat).getD 0 0 ≠ 46 ∧ (l.take n.toNat).getD ((l.take n.toNat).length - 1) 0 ≠ 46) := by
          rintro ⟨k1, k2, k3, k4⟩
          rw [Ne, hnil e] at k1
          rw [htl e] at k2 k4
          rw [htg 0 (by omega)] at k3
          rw [htg _ (by omega), show n.toNat - 1 = (n - 1).toNat by omega] at k4
          omega
        rw [localD, decide_eq_false key]; rfl
      rw [some e, hl0]; rfl
  rintro ⟨b, _⟩ _ _ ⟨j1, j2, j3, j4, j5⟩
  have hE := some j1
  have hloc : localD (l.take n.toNat) = (!dotsD (l.take n.toNat) && (l.take n.toNat).all mcharD) := by
    rw [localD, decide_eq_true ⟨by rw [Ne, hnil j1]; omega, by rw [htl j1]; omega, by rw [htg 0 (by omega)]; exact j4, by rw [htl j1, htg _ (by omega)]; exact j5⟩]; rfl
  have hbad : ∀ i : Int, 0 ≤ i → i < n → mcharD (l.getD i.toNat 0) = false → false = emailD l := fun i h0 h1 hm => by
    rw [hE, hloc, all_not _ _ i.toNat (by rw [htl j1]; omega) (by rw [htg _ (by omega)]; exact hm)]
    simp
  have h64 : l.getD n.toNat 0 = 64 := by
    simp only [Bool.and_eq_false_iff, decide_eq_false_iff_not] at h
    rcases h with h | h
    . omega
    . exact Classical.not_not.1 h
  simp only
  refine ⟨fun y _ => 0 ≤ y.1 ∧ y.1 ≤ n ∧ ∀ j, j < y.1.toNat → mcharD (l.getD j 0) = true ∧ ¬ (l.getD j 0 = 46 ∧ l.getD (j + 1) 0 = 46), fun y _ => (n - y.1).toNat, ⟨Int.le_refl 0, by simp only; omega, fun j hj => by simp at hj⟩, ?_⟩
  rintro ⟨i, c, _⟩ _ _ ⟨i0, i1, i2⟩
  simp only at i0 i1 i2 ⊢
  have hw3 : IntKind.wrap .i64 (i + 1) = i + 1 := wrapK _ (by omega) (by omega)
  rw [hw3, hw1 (by omega)]
  refine ⟨fun hlt => ⟨⟨i0, by omega⟩, fun _ _ => mcharD (l.getD i.toNat 0) = true, ?_, ?_⟩, fun hge => ⟨⟨by omega, by omega⟩, by simp; omega, ?_⟩⟩
  . rintro ⟨d, _⟩ _ ed
    simp only at ed ⊢
    refine ⟨fun h => ⟨h, ?_⟩, fun h => by rw [mcharD, ← ed, h]; rfl⟩
    rintro ⟨e, _⟩ _ ee
    simp only at ee ⊢
    refine ⟨fun h2 => hbad i i0 hlt ?_, fun h2 => ?_⟩
    . rw [mcharD, ← ed, h, ← ee, h2.1.1.1.1, decide_eq_false (by omega)]; rfl
    . rw [mcharD, ← ed, h, ← ee]
      cases e with
      | true => rfl
      | false =>
        simp only [Bool.not_false, Bool.true_and, Bool.and_eq_false_iff, decide_eq_false_iff_not] at h2
        rw [decide_eq_true (by omega)]; rfl
  . rintro ⟨d, _⟩ _ _ hJ
    have hJ : mcharD (l.getD i.toNat 0) = true := hJ
    try simp only
    have e1 : (i + 1).toNat = i.toNat + 1 := by omega
    rw [e1]
    refine ⟨fun h => ⟨h, h, by omega, by omega⟩, fun h => ?_, fun h => ⟨⟨by omega, by omega, fun j hj => ?_⟩, by omega⟩⟩
    . have hin : i.toNat + 1 < n.toNat := by
        by_cases e : i.toNat + 1 = n.toNat
        . rw [e, h64] at h; omega
        . omega
      have hd : dotsD (l.take n.toNat) = true := (dots_iff _).2 ⟨i.toNat, by rw [htl j1]; omega, by rw [htg _ (by omega)]; exact h.1, by rw [htg _ hin]; exact h.2⟩
      rw [hE, hloc, hd]; rfl
    . by_cases hji : j < i.toNat
      . exact i2 j hji
      . rw [show j = i.toNat by omega]
        simp only [Bool.and_eq_false_iff, decide_eq_false_iff_not] at h
        exact ⟨hJ, by omega⟩
  . rintro ⟨d, _⟩ _ ed
    simp only at ed ⊢
    have hin : i = n := by omega
    subst hin
    have ha : (l.take i.toNat).all mcharD = true := all_get _ _ (fun j hj => by
      rw [htl j1] at hj
      rw [htg _ hj]
      exact (i2 j hj).1)
    have hd : dotsD (l.take i.toNat) = false := by
      cases hd : dotsD (l.take i.toNat) with
      | false => rfl
      | true =>
        obtain ⟨j, q1, q2, q3⟩ := (dots_iff _).1 hd
        rw [htl j1] at q1
        rw [htg _ (by omega)] at q2
        rw [htg _ q1] at q3
        exact absurd ⟨q2, q3⟩ (i2 j (by omega)).2
    rw [hE, hloc, ha, hd, ed, show (i + 1).toNat = i.toNat + 1 by omega]; rfl
theorem h97 : c_r13_Email.ok Tryz.prog GL 97 := con_ok (H := {joins := [6,12]}) (mkEnv_ok (gl := GL) (l := [(140, conSem c_r13_letter), (139, conSem c_r13_digit), (96, conSem c_r13_DNS)]) (q := []) (d := []) _ tyOk (by kernel_rfl) ⟨h140.call, h139.call, h96.call, trivial⟩ trivial trivial) (by kernel_rfl) (by kernel_rfl) (Eq.mp e97 k97)
def t148 : Prop :=
  ∀ (x : q5), (q68 x) -> True -> (decide ((lnZ x.1) = q73) = false -> True) /\ (decide ((lnZ x.1) = q73) = false -> (decide ((lnZ x.1) = q73) == false) = true /\ True) /\ (decide ((lnZ x.1) =
  q73) = false -> (decide ((lnZ x.1) = q73) == false) = true /\ True) /\ (decide ((lnZ x.1) = q73) = false -> (decide ((lnZ x.1) = q73) == false) = true) /\ (bif decide ((lnZ x.1) = q73) then
  true else decide ((lnZ x.1) = (16 : Int))) = ipD x.1
theorem e148 : t148 = Con.vc c_host_IP GL (mkEnv ty [] [] [] [0, 2]) {} Tryz.f148.ntmps Tryz.f148.results.toList (bodyOf Tryz.f148) := by kernel_rfl
theorem k148 : t148 := by
  unfold t148
  delta q5 q68 lnZ q73 wsZ
  rintro ⟨l, _⟩ hx hp
  try dsimp +instances only [dft_int, dft_sl, dft_str]
  simp only [true_and, and_true, eq_self_iff_true, implies_true, reduceCtorEq, false_implies, true_implies, decide_eq_true_eq, decide_eq_false_iff_not, beq_self_eq_true, Bool.not_eq_true', ne_eq, Decidable.not_not, List.nil_append, List.length_singleton, List.length_cons, List.length_nil, Nat.zero_add, Nat.add_zero, Nat.mul_one, and_self, beq_iff_eq, Bool.not_true, Bool.not_false, Bool.not_eq_false', Bool.cond_false_right, Bool.and_eq_true, imp_self, Bool.not_eq_true, Bool.cond_true_left, Bool.or_eq_true]
  rw [Bool.eq_iff_iff, ipD]
  simp only [Bool.or_eq_true, decide_eq_true_eq]
  omega
theorem h148 : c_host_IP.ok Tryz.prog GL 148 := con_ok (H := {}) (mkEnv_ok (gl := GL) (l := []) (q := []) (d := []) _ tyOk (by kernel_rfl) trivial trivial trivial) (by kernel_rfl) (by kernel_rfl) (Eq.mp e148 k148)
end Go.Proofs.YtiofbnlbfmbodaaGreatDoor
end
