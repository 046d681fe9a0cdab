/- Texts of a verified walk, led together: HostA, HostW. -/
import Derived.Test.YtlpbhgcndebkcaaGreatDoorZW07
import Derived.Test.YtlpbhgcndebkcaaGreatDoorZV13
set_option linter.unusedVariables false
set_option linter.unusedSimpArgs false
section
namespace Go.Proofs.YtlpbhgcndebkcaaGreatDoor
open Go Go.Vc Go.Pl Go.Proofs
def c_host_letter : Con := { args := [.dat U8], res := [.dat .bool], pre := fun _ => True, post := fun x y => y.1 = letterD x.1 }
def c_r13_letter : Con := { args := [.dat U8], res := [.dat .bool], pre := fun _ => True, post := fun x y => y.1 = letterD x.1 }
def c_host_digit : Con := { args := [.dat U8], res := [.dat .bool], pre := fun _ => True, post := fun x y => y.1 = digitD x.1 }
def c_r13_digit : Con := { args := [.dat U8], res := [.dat .bool], pre := fun _ => True, post := fun x y => y.1 = digitD x.1 }
def c_host_label_1 : Con := { args := [.dat U8], res := [.dat .bool], pre := fun _ => True, post := fun x y => y.1 = lcharD x.1 }
def c_host_local_1 : Con := { args := [.dat U8], res := [.dat .bool], pre := fun _ => True, post := fun x y => y.1 = mcharD x.1 }
def c_host_label : Con := { args := [.dat .str], res := [.dat .bool], pre := fun x => x.1.length ≤ 1000000000, post := fun x y => y.1 = labelD x.1 }
def c_r13_isLabel : Con := { args := [.dat .str], res := [.dat .bool], pre := fun x => x.1.length ≤ 1000000000, post := fun x y => y.1 = labelD x.1 }
def c_host_local : Con := { args := [.dat .str], res := [.dat .bool], pre := fun x => x.1.length ≤ 1000000000, post := fun x y => y.1 = localD x.1 }
def c_host_DNS : Con := { args := [.dat .str], res := [.dat .bool], pre := fun x => x.1.length ≤ 1000000000, post := fun x y => y.1 = dnsD x.1 }
def c_r13_DNS : Con := { args := [.dat .str], res := [.dat .bool], pre := fun x => x.1.length ≤ 1000000000, post := fun x y => y.1 = dnsD x.1 }
def c_host_Wild : Con := { args := [.dat .str], res := [.dat .bool], pre := fun x => x.1.length ≤ 1000000000, post := fun x y => y.1 = wildD x.1 }
def c_r13_Wild : Con := { args := [.dat .str], res := [.dat .bool], pre := fun x => x.1.length ≤ 1000000000, post := fun x y => y.1 = wildD x.1 }
def c_host_Email : Con := { args := [.dat .str], res := [.dat .bool], pre := fun x => x.1.length ≤ 1000000000, post := fun x y => y.1 = emailD x.1 }
def c_r13_Email : Con := { args := [.dat .str], res := [.dat .bool], pre := fun x => x.1.length ≤ 1000000000, post := fun x y => y.1 = emailD x.1 }
def c_host_IP : Con := { args := [.dat .str], res := [.dat .bool], pre := fun _ => True, post := fun x y => y.1 = ipD x.1 }
def c_r13_IP : Con := { args := [.dat .str], res := [.dat .bool], pre := fun _ => True, post := fun x y => y.1 = ipD x.1 }
def c_r13_Labels : Con := { args := [.dat .str], res := [.own 9 .str], pre := fun x => x.1.length ≤ 1000000000, post := fun x y => y.1 = labelsD x.1 }
end Go.Proofs.YtlpbhgcndebkcaaGreatDoor
end
section
namespace Go.Proofs.YtlpbhgcndebkcaaGreatDoor
open Go Go.Vc Go.Pl Go.Proofs
set_option linter.unusedVariables false
set_option linter.unusedSimpArgs false
abbrev q26 := ((Bool × Unit) × (List Int × Unit) × (List Int × Unit) × Unit)
abbrev q506 (p0 : q6) := (bif bif decide (p0.1 = bs { data := #[] }) then true else decide ((63 : Int) < (lnZ p0.1)) then true else decide (List.getD p0.1 q540 q529 = (45 : Int)))
abbrev q312 (p0 : q6) := ((q506 p0) = false -> ((q506 p0) == false) = true /\ True)
abbrev q313 (p0 : q6) := (bif bif bif decide (q455 p0) then true else decide ((63 : Int) < (lnZ p0.1)) then true else decide (List.getD p0.1 q540 q529 = (45 : Int)) then true else decide
  (List.getD p0.1 (Int.toNat (wrZ ((lnZ p0.1) - q458))) q421 = (45 : Int)))
abbrev q314 (p0 : q4) (p1 : q6) (p2 : q8) (p3 : q10) (p4 : q9) (p5 : Unit) := ((!p0.1) = false -> (lnZ p1.1) = (lnZ p1.1) /\ p1.1 = p1.1 /\ p1.1 = p1.1 /\ Value.bool false = Value.bool
  false /\ Value.bool false = Value.bool false /\ p1.1 = p1.1 /\ p2 (wrZ (p3.1 + q458), p3.2.1, ()) () /\ p4 (wrZ (p3.1 + q458), p3.2.1, ()) () < p4 p3 p5)
abbrev q315 (p0 : q6) := ((q506 p0) = false -> True)
abbrev q316 (p0 : q6) := ((q506 p0) == false)
abbrev q317 (p0 : q6) (p1 : q8) := ((lnZ p0.1) = (lnZ p0.1) /\ p0.1 = p0.1 /\ p0.1 = p0.1 /\ Value.bool false = Value.bool false /\ Value.bool false = Value.bool false /\ p0.1 = p0.1 /\ p1
  (q421, false, ()) ())
abbrev q318 (p0 : q6) := (bif bif decide (q455 p0) then true else decide ((63 : Int) < (lnZ p0.1)) then true else decide (List.getD p0.1 q540 q529 = (45 : Int)))
abbrev q319 (p0 : q6) := ((bif decide (q455 p0) then true else decide ((63 : Int) < (lnZ p0.1))) == false)
abbrev q320 (p0 : q6) := (bif decide (q455 p0) then true else decide ((63 : Int) < (lnZ p0.1)))
abbrev q321 (p0 : q6) (p1 : q10) := (List.getD p0.1 (q418 p1) q421)
abbrev q544 (p0 : q6) (p1 : q10) := (List.getD p0.1 (Int.toNat p1.1) q574 ≠ (45 : Int))
abbrev q507 (p0 : q6) (p1 : q10) := (bif decide (q544 p0 p1) then true else decide (p1.1 = q529))
abbrev q322 (p0 : q4) (p1 : q6) (p2 : q10) := (((!p0.1) == true && (!p0.1) == true) = true -> (q507 p1 p2) = false -> ((!p0.1) == true && (!p0.1) == true && (q507 p1 p2) == false) = true /\
  True)
abbrev q323 (p0 : q4) (p1 : q6) (p2 : q10) := (bif !p0.1 then bif bif decide (q544 p1 p2) then true else decide (p2.1 = q421) then true else decide (p2.1 = wrZ ((lnZ p1.1) - q458)) else
  false)
abbrev q324 (p0 : q4) (p1 : q6) (p2 : q10) := (((!p0.1) == true && (!p0.1) == true) = true -> (q507 p1 p2) = false -> True)
abbrev q325 (p0 : q4) (p1 : q6) (p2 : q10) := ((!p0.1) == true && (!p0.1) == true && (q507 p1 p2) == false)
abbrev q326 (p0 : q6) (p1 : q10) := (bif decide (q544 p0 p1) then true else decide (p1.1 = q421))
abbrev q327 (p0 : q6) (p1 : q10) := (List.getD p0.1 (q418 p1) q421 ≠ (45 : Int))
abbrev q328 (p0 : q4) := ((!p0.1) == true && (!p0.1) == true)
abbrev q508 (p0 : q6) := (bif bif decide (p0.1 = bs { data := #[] }) then true else decide ((64 : Int) < (lnZ p0.1)) then true else decide (List.getD p0.1 q540 q529 = (46 : Int)))
abbrev q329 (p0 : q6) := ((q508 p0) = false -> ((q508 p0) == false) = true /\ True)
abbrev q509 (p0 : q6) := (List.getD p0.1 q540 q529 = (46 : Int))
abbrev q330 (p0 : q6) := (bif bif bif decide (q455 p0) then true else decide ((64 : Int) < (lnZ p0.1)) then true else decide (q509 p0) then true else decide (List.getD p0.1 (Int.toNat (wrZ
  ((lnZ p0.1) - q458))) q421 = (46 : Int)))
abbrev q331 (p0 : q6) := ((q508 p0) = false -> True)
abbrev q332 (p0 : q6) := ((q508 p0) == false)
abbrev q333 (p0 : q6) := (bif bif decide (q455 p0) then true else decide ((64 : Int) < (lnZ p0.1)) then true else decide (q509 p0))
abbrev q334 (p0 : q6) := ((bif decide (q455 p0) then true else decide ((64 : Int) < (lnZ p0.1))) == false)
abbrev q335 (p0 : q6) := (bif decide (q455 p0) then true else decide ((64 : Int) < (lnZ p0.1)))
abbrev q459 := (bs { data := #[(46 : UInt8)] })
abbrev q336 (p0 : Bool × List Int × List Int × Unit) := (cutD (List.getD q459 q437 q421) p0.2.1)
abbrev q337 (p0 : q6) := (cutD (List.getD q459 q437 q421) p0.1)
abbrev q338 (p0 : q18) := (lnZ (List.getD p0.1 (Int.toNat (wrZ ((lnZ p0.1) - q458))) q425))
abbrev q339 (p0 : q18) := (Int.toNat (wrZ ((lnZ p0.1) - q458)))
abbrev q340 (p0 : q5) (p1 : q6) := (bif p0.2.1 then decide ((lnZ p1.1) <= (253 : Int)) else false)
abbrev q341 := (bs { data := #[(42 : UInt8), q417] })
abbrev q342 (p0 : q6) := (bif bif decide (q440 p0) then decide ((lnZ p0.1) <= (253 : Int)) else false then decide (List.take (2 : Nat) p0.1 = bs { data := #[(42 : UInt8), q417] }) else
  false)
abbrev q343 (p0 : q6) := ((bif decide (q440 p0) then decide ((lnZ p0.1) <= (253 : Int)) else false) == true)
abbrev q344 (p0 : q6) := (bif decide (q440 p0) then decide ((lnZ p0.1) <= (253 : Int)) else false)
abbrev q345 (p0 : q6) := (cutD (List.getD (bs { data := #[(64 : UInt8)] }) q437 q421) p0.1)
abbrev q510 (p0 : q1) (p1 : q6) := (bif bif bif decide (p0.1 = (lnZ p1.1)) then true else decide (p0.1 < q528) then true else decide ((64 : Int) < p0.1) then true else decide (List.getD
  p1.1 q540 q529 = (46 : Int)))
abbrev q346 (p0 : q1) (p1 : q6) := ((q510 p0 p1) = false -> ((q510 p0 p1) == false) = true /\ True)
abbrev q511 (p0 : q6) (p1 : q10) := (List.getD p0.1 (Int.toNat p1.1) q529 ≠ (46 : Int))
abbrev q512 (p0 : q6) (p1 : q10) := (List.getD p0.1 (Int.toNat p1.1) q529 ≠ (95 : Int))
abbrev q347 (p0 : q4) (p1 : q6) (p2 : q10) := (bif bif bif bif !p0.1 then decide (q511 p1 p2) else false then decide (q512 p1 p2) else false then decide (List.getD p1.1 (q418 p2) q421 ≠ (43
  : Int)) else false then decide (q544 p1 p2) else false)
abbrev q348 (p0 : q1) (p1 : q6) := (bif bif bif bif decide (p0.1 = (lnZ p1.1)) then true else decide (p0.1 < q458) then true else decide ((64 : Int) < p0.1) then true else decide (q509 p1)
  then true else decide (List.getD p1.1 (Int.toNat (wrZ (p0.1 - q458))) q421 = (46 : Int)))
abbrev q349 (p0 : q4) (p1 : q6) (p2 : q10) := ((bif bif bif !p0.1 then decide (q511 p1 p2) else false then decide (q512 p1 p2) else false then decide (List.getD p1.1 (q418 p2) q421 ≠ (43 :
  Int)) else false) == true)
abbrev q350 (p0 : q4) (p1 : q6) (p2 : q10) := (bif bif bif !p0.1 then decide (q511 p1 p2) else false then decide (q512 p1 p2) else false then decide (List.getD p1.1 (q418 p2) q421 ≠ (43 :
  Int)) else false)
abbrev q351 (p0 : q1) (p1 : q6) := ((q510 p0 p1) = false -> True)
abbrev q352 (p0 : q1) (p1 : q6) := ((q510 p0 p1) == false)
abbrev q353 (p0 : q1) (p1 : q6) := (bif bif bif decide (p0.1 = (lnZ p1.1)) then true else decide (p0.1 < q458) then true else decide ((64 : Int) < p0.1) then true else decide (q509 p1))
abbrev q354 (p0 : q4) (p1 : q6) (p2 : q10) := ((bif bif !p0.1 then decide (q511 p1 p2) else false then decide (q512 p1 p2) else false) == true)
abbrev q355 (p0 : q4) (p1 : q6) (p2 : q10) := (bif bif !p0.1 then decide (q511 p1 p2) else false then decide (q512 p1 p2) else false)
abbrev q513 (p0 : q6) (p1 : q10) := (List.getD p0.1 (Int.toNat p1.1) q529 = (46 : Int))
abbrev q356 (p0 : q6) (p1 : q10) := (bif decide (q513 p0 p1) then decide (List.getD p0.1 (Int.toNat (wrZ (p1.1 + q458))) q421 = (46 : Int)) else false)
abbrev q357 (p0 : q6) (p1 : q10) := (decide (q513 p0 p1) = true -> (decide (q513 p0 p1) == true) = true /\ True)
abbrev q358 (p0 : q1) (p1 : q6) := ((bif bif decide (p0.1 = (lnZ p1.1)) then true else decide (p0.1 < q458) then true else decide ((64 : Int) < p0.1)) == false)
abbrev q359 (p0 : q1) (p1 : q6) := (bif bif decide (p0.1 = (lnZ p1.1)) then true else decide (p0.1 < q458) then true else decide ((64 : Int) < p0.1))
abbrev q360 (p0 : q4) (p1 : q6) (p2 : q10) := (bif !p0.1 then decide (q511 p1 p2) else false)
abbrev q361 (p0 : q6) (p1 : q10) := (decide (q513 p0 p1) == true)
abbrev q362 (p0 : q1) (p1 : q6) := (bif decide (p0.1 = (lnZ p1.1)) then true else decide (p0.1 < q458))
abbrev q363 (p0 : q6) (p1 : q10) := (List.getD p0.1 (q418 p1) q421 = (46 : Int))
abbrev q460 (p0 : q6) := ((lnZ p0.1) = (4 : Int))
abbrev q364 (p0 : q6) := (decide (q460 p0) = false -> (decide (q460 p0) == false) = true /\ True)
def t93 : Prop :=
  ∀ (x : q1), (q110 x) -> True -> (q109 x) /\ (q104 x) /\ (q106 x) /\ (q123 x) /\ (q118 x) /\ (q123 x) /\ (q117 x) /\ (q112 x) /\ (q111 x) /\ (q120 x) /\ (q122 x) = letterD x.1
theorem e93 : t93 = Con.vc c_host_letter GL (mkEnv ty [] [] [] [0, 2]) {} Tryz.f93.ntmps Tryz.f93.results.toList (bodyOf Tryz.f93) := by kernel_rfl
theorem k93 : t93 := by
  unfold t93
  delta q1 q110 q109 q104 q106 q123 q118 q117 q112 q111 q120 q122 q522 q416 q481 q525 q480 q554
  rintro ⟨l, _⟩ hx hp
  try dsimp +instances only [dft_int, dft_sl, dft_str]
  simp only [true_and, and_true, eq_self_iff_true, implies_true, reduceCtorEq, false_implies, true_implies, decide_eq_true_eq, decide_eq_false_iff_not, beq_self_eq_true, Bool.not_eq_true', ne_eq, Decidable.not_not, List.nil_append, List.length_singleton, List.length_cons, List.length_nil, Nat.zero_add, Nat.add_zero, Nat.mul_one, and_self, beq_iff_eq, Bool.not_true, Bool.not_false, Bool.not_eq_false', Bool.cond_false_right, Bool.and_eq_true, imp_self, Bool.not_eq_true, Bool.cond_true_left, Bool.or_eq_true]
  refine ⟨fun h h2 => ⟨h, h2⟩, fun h => ⟨h, fun h2 => ⟨h, h2⟩⟩, ?_⟩
  rw [Bool.eq_iff_iff, letterD]
  simp only [Bool.or_eq_true, Bool.and_eq_true, decide_eq_true_eq]
theorem h93 : c_host_letter.ok Tryz.prog GL 93 := con_ok (H := {}) (mkEnv_ok (gl := GL) (l := []) (q := []) (d := []) _ tyOk (by kernel_rfl) trivial trivial trivial) (by kernel_rfl) (by kernel_rfl) (Eq.mp e93 k93)
def t51 : Prop :=
  ∀ (x : q1), (q110 x) -> True -> (q109 x) /\ (q104 x) /\ (q106 x) /\ (q123 x) /\ (q118 x) /\ (q123 x) /\ (q117 x) /\ (q112 x) /\ (q111 x) /\ (q120 x) /\ (q122 x) = letterD x.1
theorem e51 : t51 = Con.vc c_r13_letter GL (mkEnv ty [] [] [] [0, 2]) {} Tryz.f51.ntmps Tryz.f51.results.toList (bodyOf Tryz.f51) := by kernel_rfl
theorem k51 : t51 := by
  unfold t51
  delta q1 q110 q109 q104 q106 q123 q118 q117 q112 q111 q120 q122 q522 q416 q481 q525 q480 q554
  rintro ⟨l, _⟩ hx hp
  try dsimp +instances only [dft_int, dft_sl, dft_str]
  simp only [true_and, and_true, eq_self_iff_true, implies_true, reduceCtorEq, false_implies, true_implies, decide_eq_true_eq, decide_eq_false_iff_not, beq_self_eq_true, Bool.not_eq_true', ne_eq, Decidable.not_not, List.nil_append, List.length_singleton, List.length_cons, List.length_nil, Nat.zero_add, Nat.add_zero, Nat.mul_one, and_self, beq_iff_eq, Bool.not_true, Bool.not_false, Bool.not_eq_false', Bool.cond_false_right, Bool.and_eq_true, imp_self, Bool.not_eq_true, Bool.cond_true_left, Bool.or_eq_true]
  refine ⟨fun h h2 => ⟨h, h2⟩, fun h => ⟨h, fun h2 => ⟨h, h2⟩⟩, ?_⟩
  rw [Bool.eq_iff_iff, letterD]
  simp only [Bool.or_eq_true, Bool.and_eq_true, decide_eq_true_eq]
theorem h51 : c_r13_letter.ok Tryz.prog GL 51 := con_ok (H := {}) (mkEnv_ok (gl := GL) (l := []) (q := []) (d := []) _ tyOk (by kernel_rfl) trivial trivial trivial) (by kernel_rfl) (by kernel_rfl) (Eq.mp e51 k51)
def t58 : Prop :=
  ∀ (x : q1), (q110 x) -> True -> (decide ((48 : Int) <= x.1) = true -> True) /\ (q105 x) /\ (q107 x) /\ (q108 x) = digitD x.1
theorem e58 : t58 = Con.vc c_host_digit GL (mkEnv ty [] [] [] [0, 2]) {} Tryz.f58.ntmps Tryz.f58.results.toList (bodyOf Tryz.f58) := by kernel_rfl
theorem k58 : t58 := by
  unfold t58
  delta q1 q110 q105 q107 q108 q522
  rintro ⟨l, _⟩ hx hp
  try dsimp +instances only [dft_int, dft_sl, dft_str]
  simp only [true_and, and_true, eq_self_iff_true, implies_true, reduceCtorEq, false_implies, true_implies, decide_eq_true_eq, decide_eq_false_iff_not, beq_self_eq_true, Bool.not_eq_true', ne_eq, Decidable.not_not, List.nil_append, List.length_singleton, List.length_cons, List.length_nil, Nat.zero_add, Nat.add_zero, Nat.mul_one, and_self, beq_iff_eq, Bool.not_true, Bool.not_false, Bool.not_eq_false', Bool.cond_false_right, Bool.and_eq_true, imp_self, Bool.not_eq_true, Bool.cond_true_left, Bool.or_eq_true]
  rw [Bool.eq_iff_iff, digitD]
  simp only [Bool.and_eq_true, decide_eq_true_eq]
theorem h58 : c_host_digit.ok Tryz.prog GL 58 := con_ok (H := {}) (mkEnv_ok (gl := GL) (l := []) (q := []) (d := []) _ tyOk (by kernel_rfl) trivial trivial trivial) (by kernel_rfl) (by kernel_rfl) (Eq.mp e58 k58)
def t52 : Prop :=
  ∀ (x : q1), (q110 x) -> True -> (decide ((48 : Int) <= x.1) = true -> True) /\ (q105 x) /\ (q107 x) /\ (q108 x) = digitD x.1
theorem e52 : t52 = Con.vc c_r13_digit GL (mkEnv ty [] [] [] [0, 2]) {} Tryz.f52.ntmps Tryz.f52.results.toList (bodyOf Tryz.f52) := by kernel_rfl
theorem k52 : t52 := by
  unfold t52
  delta q1 q110 q105 q107 q108 q522
  rintro ⟨l, _⟩ hx hp
  try dsimp +instances only [dft_int, dft_sl, dft_str]
  simp only [true_and, and_true, eq_self_iff_true, implies_true, reduceCtorEq, false_implies, true_implies, decide_eq_true_eq, decide_eq_false_iff_not, beq_self_eq_true, Bool.not_eq_true', ne_eq, Decidable.not_not, List.nil_append, List.length_singleton, List.length_cons, List.length_nil, Nat.zero_add, Nat.add_zero, Nat.mul_one, and_self, beq_iff_eq, Bool.not_true, Bool.not_false, Bool.not_eq_false', Bool.cond_false_right, Bool.and_eq_true, imp_self, Bool.not_eq_true, Bool.cond_true_left, Bool.or_eq_true]
  rw [Bool.eq_iff_iff, digitD]
  simp only [Bool.and_eq_true, decide_eq_true_eq]
theorem h52 : c_r13_digit.ok Tryz.prog GL 52 := con_ok (H := {}) (mkEnv_ok (gl := GL) (l := []) (q := []) (d := []) _ tyOk (by kernel_rfl) trivial trivial trivial) (by kernel_rfl) (by kernel_rfl) (Eq.mp e52 k52)
def t92 : Prop :=
  ∀ (x : q1), (q110 x) -> True -> True /\ (∀ (y : q4), (q49 y) -> y.1 = letterD x.1 -> (y.1 = false -> True) /\ (y.1 = false -> (y.1 == false) = true /\ True /\ (∀ (y : q4), (q49 y) -> y.1 =
  digitD x.1 -> (y.1 = false -> True) /\ (y.1 = false -> (y.1 == false) = true /\ True) /\ (y.1 = false -> (y.1 == false) = true) /\ (bif y.1 then true else decide (x.1 = (45 : Int))) =
  lcharD x.1) /\ True) /\ (y.1 = !false -> true = lcharD x.1)) /\ True
theorem e92 : t92 = Con.vc c_host_label_1 GL (mkEnv ty [(93, conSem c_host_letter), (58, conSem c_host_digit)] [] [] [0, 2]) {} Tryz.f92.ntmps Tryz.f92.results.toList (bodyOf Tryz.f92) := by kernel_rfl
theorem k92 : t92 := by
  unfold t92
  delta q1 q110 q4 q49 q522 wbZ
  rintro ⟨l, _⟩ hx hp
  try dsimp +instances only [dft_int, dft_sl, dft_str]
  simp only [true_and, and_true, eq_self_iff_true, implies_true, reduceCtorEq, false_implies, true_implies, decide_eq_true_eq, decide_eq_false_iff_not, beq_self_eq_true, Bool.not_eq_true', ne_eq, Decidable.not_not, List.nil_append, List.length_singleton, List.length_cons, List.length_nil, Nat.zero_add, Nat.add_zero, Nat.mul_one, and_self, beq_iff_eq, Bool.not_true, Bool.not_false, Bool.not_eq_false', Bool.cond_false_right, Bool.and_eq_true, imp_self, Bool.not_eq_true, Bool.cond_true_left, Bool.or_eq_true]
  rintro ⟨a, _⟩ _ ea
  simp only at ea ⊢
  subst ea
  refine ⟨fun h => ⟨h, ?_⟩, fun h => by rw [lcharD, h]; rfl⟩
  rintro ⟨b, _⟩ _ eb
  simp only at eb ⊢
  rw [lcharD, h, eb]; rfl
theorem h92 : c_host_label_1.ok Tryz.prog GL 92 := con_ok (H := {}) (mkEnv_ok (gl := GL) (l := [(93, conSem c_host_letter), (58, conSem c_host_digit)]) (q := []) (d := []) _ tyOk (by kernel_rfl) ⟨h93.call, h58.call, trivial⟩ trivial trivial) (by kernel_rfl) (by kernel_rfl) (Eq.mp e92 k92)
def t96 : Prop :=
  ∀ (x : q1), (q110 x) -> True -> True /\ (∀ (y : q4), (q49 y) -> y.1 = letterD x.1 -> (y.1 = false -> True) /\ (y.1 = false -> (y.1 == false) = true /\ True /\ (∀ (y : q4), (q49 y) -> y.1 =
  digitD x.1 -> (y.1 = false -> True) /\ (y.1 = false -> (y.1 == false) = true /\ True) /\ (y.1 = false -> True) /\ ((y.1 == false && y.1 == false) = true -> decide (x.1 ≠ q40) = true ->
  True) /\ ((y.1 == false && y.1 == false) = true -> decide (x.1 ≠ q40) = true -> (y.1 == false && y.1 == false && decide (x.1 ≠ q40) == true) = true /\ True /\ (∀ (y_1 : q1), (q36 y_1) ->
  y_1.1 = idxB (bs { data := #[q417, (95 : UInt8), (43 : UInt8), (45 : UInt8)] }) x.1 -> (y.1 = false -> True) /\ (y.1 = false -> (y.1 == false) = true) /\ (bif y.1 then true else decide (q39
  y_1)) = mcharD x.1) /\ True) /\ ((y.1 == false && y.1 == false) = true -> decide (x.1 ≠ q40) = !true -> (y.1 = false -> True) /\ (y.1 = false -> (y.1 == false) = true) /\ (bif y.1 then true
  else false) = mcharD x.1) /\ ((y.1 == false && y.1 == false) = false -> (y.1 = false -> False) /\ (y.1 = !false -> true = mcharD x.1))) /\ True) /\ (y.1 = !false -> true = mcharD x.1)) /\
  True
theorem e96 : t96 = Con.vc c_host_local_1 GL (mkEnv ty [(93, conSem c_host_letter), (58, conSem c_host_digit), (66, conSem c_strings_IndexByte)] [] [] [0, 2]) {} Tryz.f96.ntmps Tryz.f96.results.toList (bodyOf Tryz.f96) := by kernel_rfl
theorem k96 : t96 := by
  unfold t96
  delta q1 q110 q4 q49 q40 q36 q417 q39 q522 wbZ wiZ q421
  rintro ⟨l, _⟩ hx hp
  try dsimp +instances only [dft_int, dft_sl, dft_str]
  simp only [true_and, and_true, eq_self_iff_true, implies_true, reduceCtorEq, false_implies, true_implies, decide_eq_true_eq, decide_eq_false_iff_not, beq_self_eq_true, Bool.not_eq_true', ne_eq, Decidable.not_not, List.nil_append, List.length_singleton, List.length_cons, List.length_nil, Nat.zero_add, Nat.add_zero, Nat.mul_one, and_self, beq_iff_eq, Bool.not_true, Bool.not_false, Bool.not_eq_false', Bool.cond_false_right, Bool.and_eq_true, imp_self, Bool.not_eq_true, Bool.cond_true_left, Bool.or_eq_true]
  have hb : bs { data := #[46, 95, 43, 45] } = [46, 95, 43, 45] := by decide
  have hi : decide (0 ≤ idxB [46, 95, 43, 45] l) = decide (l = 46 ∨ l = 95 ∨ l = 43 ∨ l = 45) := by
    refine decide_eq_decide.2 ((idxB_mem _ _).trans ?_)
    simp
  rw [hb]
  rintro ⟨a, _⟩ _ ea
  simp only at ea ⊢
  subst ea
  refine ⟨fun h => ⟨h, ?_⟩, fun h => by rw [mcharD, h]; rfl⟩
  rintro ⟨b, _⟩ _ eb
  simp only at eb ⊢
  refine ⟨fun h1 h2 => ⟨⟨h1, h2⟩, ?_⟩, fun h1 h2 => ?_, fun h1 => ⟨fun h2 => ?_, fun h2 => ?_⟩⟩
  . rintro ⟨c, _⟩ _ ec
    simp only at ec ⊢
    rw [mcharD, h, ← eb, h1, ec, hi]; rfl
  . subst h2
    rw [mcharD, h, ← eb, h1]; rfl
  . rw [h2] at h1; cases h1
  . rw [mcharD, h, ← eb, h2]; rfl
theorem h96 : c_host_local_1.ok Tryz.prog GL 96 := con_ok (H := {}) (mkEnv_ok (gl := GL) (l := [(93, conSem c_host_letter), (58, conSem c_host_digit), (66, conSem c_strings_IndexByte)]) (q := []) (d := []) _ tyOk (by kernel_rfl) ⟨h93.call, h58.call, h66.call, trivial⟩ trivial trivial) (by kernel_rfl) (by kernel_rfl) (Eq.mp e96 k96)
noncomputable def i57 : CallSem := vcFn (mkEnv ty [(92, conSem c_host_label_1), (96, conSem c_host_local_1), (58, conSem c_host_digit)] [] [] [0, 1, 4, 5, 7, 8, 9, 16]) {} Tryz.f57.ntmps Tryz.f57.results.toList (bodyOf Tryz.f57)
theorem i57_ok : CallOk Tryz.prog GL 57 i57 := inl_ok {} (mkEnv_ok (gl := GL) (l := [(92, conSem c_host_label_1), (96, conSem c_host_local_1), (58, conSem c_host_digit)]) (q := []) (d := []) _ tyOk (by kernel_rfl) ⟨h92.call, h96.call, h58.call, trivial⟩ trivial trivial) (by kernel_rfl) (by kernel_rfl)
def t56 : Prop :=
  ∀ (x : q6), (q71 x) -> List.length x.1 <= q88 -> (q147 x) /\ (q144 x) /\ (q144 x) /\ (q145 x) /\ ((q320 x) = false -> True) /\ ((q320 x) = false -> (q319 x) = true /\ (q67 x) /\ True) /\
  ((q320 x) = false -> (q319 x) = true /\ True) /\ ((q320 x) = false -> (q319 x) = true) /\ (q315 x) /\ (q315 x) /\ (q312 x) /\ (q312 x) /\ ((q318 x) = false -> (q316 x) = true /\ (q316 x) =
  true /\ (q40 <= wrZ ((lnZ x.1) - q458) /\ wrZ ((lnZ x.1) - q458) < (lnZ x.1)) /\ True) /\ (q312 x) /\ ((q318 x) = false -> (q316 x) = true) /\ ((q313 x) = true -> false = labelD x.1) /\
  ((q313 x) = false -> ∃ (I : q8), ∃ (μ : q9), (q317 x I) /\ ∀ (y : q10) (z : Unit), (q87 y) -> True -> I y z -> (decide (y.1 < (lnZ x.1)) = true -> (q240 y x) /\ True /\ (∀ (y_1 : q4), (q49
  y_1) -> y_1.1 = lcharD (q321 x y) -> ((!y_1.1) = true -> false = labelD x.1) /\ (q314 y_1 x I y μ z)) /\ True) /\ (decide (y.1 < (lnZ x.1)) = false -> true = labelD x.1))
theorem e56 : t56 = Con.vc c_host_label GL (mkEnv ty [(57, i57)] [] [] [0, 2, 22]) {} Tryz.f56.ntmps Tryz.f56.results.toList (bodyOf Tryz.f56) := by kernel_rfl
theorem k56 : t56 := by
  unfold t56
  delta q6 q71 q88 q147 q144 q145 q320 q319 q67 q315 q312 q318 q316 q40 wrZ lnZ q458 q313 q8 q9 q317 q10 q87 q240 q4 q49 q321 q314 wsZ q455 q421 q506 q540 q529 wiZ wbZ q418
  rintro ⟨l, _⟩ hx hp
  have hp : l.length ≤ 1000000000 := hp
  try dsimp +instances only [dft_int, dft_sl, dft_str]
  simp only [true_and, and_true, eq_self_iff_true, implies_true, reduceCtorEq, false_implies, true_implies, decide_eq_true_eq, decide_eq_false_iff_not, beq_self_eq_true, Bool.not_eq_true', ne_eq, Decidable.not_not, List.nil_append, List.length_singleton, List.length_cons, List.length_nil, Nat.zero_add, Nat.add_zero, Nat.mul_one, and_self, beq_iff_eq, Bool.not_true, Bool.not_false, Bool.not_eq_false', Bool.cond_false_right, Bool.and_eq_true, imp_self, Bool.not_eq_true, Bool.cond_true_left, Bool.or_eq_true]
  rw [bs_nil]
  have hl0 : l = [] ↔ l.length = 0 := ⟨fun h => by rw [h]; rfl, List.eq_nil_of_length_eq_zero⟩
  have hw : IntKind.wrap .i64 ((l.length : Int) - 1) = l.length - 1 := wrapK _ (by omega) (by omega)
  have ht : ((l.length : Int) - 1).toNat = l.length - 1 := by omega
  rw [hw, ht]
  simp only [hl0, Bool.or_eq_false_iff, decide_eq_false_iff_not]
  refine ⟨fun h => ⟨h, by omega, by omega⟩, fun h => ⟨h, h, by omega, by omega⟩, fun h => ?_, fun h => ?_⟩
  . rw [labelD, decide_eq_false (fun hh => by rw [Ne, hl0] at hh; omega)]; rfl
  . have hl : labelD l = l.all lcharD := by
      rw [labelD, decide_eq_true (by rw [Ne, hl0]; omega)]; rfl
    rw [hl]
    refine ⟨fun y _ => 0 ≤ y.1 ∧ y.1 ≤ l.length ∧ ∀ j, j < y.1.toNat → lcharD (l.getD j 0) = true, fun y _ => ((l.length : Int) - y.1).toNat, ⟨by decide, by omega, fun j hj => by simp at hj⟩, ?_⟩
    rintro ⟨i, b, _⟩ _ _ ⟨i0, i1, i2⟩
    simp only at i0 i1 i2 ⊢
    have hw1 : IntKind.wrap .i64 (i + 1) = i + 1 := wrapK _ (by omega) (by omega)
    rw [hw1]
    refine ⟨fun hlt => ⟨⟨i0, hlt⟩, ?_⟩, fun hge => (all_get _ _ (fun j hj => i2 j (by omega))).symm⟩
    rintro ⟨c, _⟩ _ ec
    simp only at ec ⊢
    refine ⟨fun h => (all_not _ _ i.toNat (by omega) (ec.symm.trans h)).symm, fun h => ⟨⟨by omega, by omega, fun j hj => ?_⟩, by omega⟩⟩
    by_cases hji : j < i.toNat
    . exact i2 j hji
    . rw [show j = i.toNat by omega, ← ec]; exact h
theorem h56 : c_host_label.ok Tryz.prog GL 56 := con_ok (H := {}) (mkEnv_ok (gl := GL) (l := [(57, i57)]) (q := []) (d := []) _ tyOk (by kernel_rfl) ⟨i57_ok, trivial⟩ trivial trivial) (by kernel_rfl) (by kernel_rfl) (Eq.mp e56 k56)
def t54 : Prop :=
  ∀ (x : q6), (q71 x) -> List.length x.1 <= q88 -> (decide (q70 x) = false -> True) /\ (decide (q70 x) = false -> (decide (q70 x) == false) = true /\ True) /\ (decide (q70 x) = false ->
  (decide (q70 x) == false) = true /\ True) /\ (decide (q70 x) = false -> (decide (q70 x) == false) = true) /\ ((bif decide (q70 x) then true else decide ((63 : Int) < (lnZ x.1))) = true ->
  false = labelD x.1) /\ ((bif decide (q70 x) then true else decide ((63 : Int) < (lnZ x.1))) = false -> ∃ (I : q8), ∃ (μ : q9), (Value.bool false = Value.bool false /\ x.1 = x.1 /\ I (q40,
  false, ()) ()) /\ ∀ (y : q10) (z : Unit), (q87 y) -> True -> I y z -> (decide (y.1 < (lnZ x.1)) = true -> (q240 y x) /\ True /\ (∀ (y_1 : q4), (q49 y_1) -> y_1.1 = letterD (q321 x y) ->
  ((!y_1.1) = true -> True) /\ ((!y_1.1) = true -> True) /\ ((!y_1.1) = true -> ((!y_1.1) == true) = true /\ ((!y_1.1) == true) = true /\ (q240 y x) /\ True) /\ ((!y_1.1) = true -> ((!y_1.1)
  == true) = true /\ True /\ (∀ (y_2 : q4), (q49 y_2) -> y_2.1 = digitD (q321 x y) -> ((!y_2.1) = true -> True) /\ ((!y_2.1) = true -> True) /\ ((!y_2.1) = true -> ((!y_2.1) == true) = true
  /\ ((!y_2.1) == true) = true /\ (q240 y x) /\ True) /\ ((!y_2.1) = true -> ((!y_2.1) == true) = true /\ True) /\ ((!y_2.1) = true -> True) /\ ((q328 y_2) = true -> decide (q327 x y) = false
  -> True) /\ ((q328 y_2) = true -> decide (q327 x y) = false -> ((!y_2.1) == true && (!y_2.1) == true && decide (q327 x y) == false) = true /\ True) /\ ((!y_2.1) = true -> (q328 y_2) = true
  /\ (decide (q327 x y) = false -> ((!y_2.1) == true && (!y_2.1) == true && decide (q327 x y) == false) = true) /\ True) /\ ((!y_2.1) = true -> True) /\ (q324 y_2 x y) /\ (q324 y_2 x y) /\
  (q322 y_2 x y) /\ (q322 y_2 x y) /\ ((q328 y_2) = true -> (q326 x y) = false -> (q325 y_2 x y) = true /\ (q325 y_2 x y) = true /\ True) /\ ((!y_2.1) = true -> (q328 y_2) = true /\ ((q326 x
  y) = false -> (q325 y_2 x y) = true) /\ True) /\ ((!y_2.1) = true -> ((!y_2.1) == true) = true) /\ ((q323 y_2 x y) = true -> false = labelD x.1) /\ ((q323 y_2 x y) = false -> Value.bool
  false = Value.bool false /\ x.1 = x.1 /\ I (wrZ (q89 y), y.2.1, ()) () /\ μ (wrZ (q89 y), y.2.1, ()) () < μ y z)) /\ True) /\ ((!y_1.1) = !true -> Value.bool false = Value.bool false /\ x.1
  = x.1 /\ I (wrZ (q89 y), y.2.1, ()) () /\ μ (wrZ (q89 y), y.2.1, ()) () < μ y z)) /\ True) /\ (decide (y.1 < (lnZ x.1)) = false -> true = labelD x.1))
theorem e54 : t54 = Con.vc c_r13_isLabel GL (mkEnv ty [(51, conSem c_r13_letter), (52, conSem c_r13_digit)] [] [] [0, 2, 3, 11, 15, 46]) {} Tryz.f54.ntmps Tryz.f54.results.toList (bodyOf Tryz.f54) := by kernel_rfl
theorem k54 : t54 := by
  unfold t54
  delta q6 q71 q88 q70 lnZ q8 q9 q40 q10 q87 q240 q4 q49 q321 q328 q327 q324 q322 q326 q325 q323 wrZ q89 wsZ q458 wiZ wbZ q421 q418 q507 q544 q529 q574
  rintro ⟨l, _⟩ hx hp
  have hp : l.length ≤ 1000000000 := hp
  try dsimp +instances only [dft_int, dft_sl, dft_str]
  simp only [true_and, and_true, eq_self_iff_true, implies_true, reduceCtorEq, false_implies, true_implies, decide_eq_true_eq, decide_eq_false_iff_not, beq_self_eq_true, Bool.not_eq_true', ne_eq, Decidable.not_not, List.nil_append, List.length_singleton, List.length_cons, List.length_nil, Nat.zero_add, Nat.add_zero, Nat.mul_one, and_self, beq_iff_eq, Bool.not_true, Bool.not_false, Bool.not_eq_false', Bool.cond_false_right, Bool.and_eq_true, imp_self, Bool.not_eq_true, Bool.cond_true_left, Bool.or_eq_true]
  have hl0 : l = [] ↔ l.length = 0 := ⟨fun h => by rw [h]; rfl, List.eq_nil_of_length_eq_zero⟩
  have hw : IntKind.wrap .i64 ((l.length : Int) - 1) = l.length - 1 := wrapK _ (by omega) (by omega)
  rw [hw]
  simp only [Bool.or_eq_false_iff, decide_eq_false_iff_not, Bool.and_eq_false_iff, Bool.not_eq_false']
  refine ⟨fun h => ?_, fun h => ?_⟩
  . rw [labelD, decide_eq_false (by rw [Ne, hl0]; omega)]; rfl
  . have bad0 : l.getD 0 0 = 45 → labelD l = false := fun e => by rw [labelD, decide_eq_false (fun hh => hh.2.2.1 e)]; rfl
    have bad1 : l.getD (l.length - 1) 0 = 45 → labelD l = false := fun e => by rw [labelD, decide_eq_false (fun hh => hh.2.2.2 e)]; rfl
    have badc : ∀ i, i < l.length → lcharD (l.getD i 0) = false → labelD l = false := fun i hi e => by rw [labelD, all_not _ _ i hi e, Bool.and_false]
    have hgood : (∀ i, i < l.length → lcharD (l.getD i 0) = true) → l.getD 0 0 ≠ 45 → l.getD (l.length - 1) 0 ≠ 45 → labelD l = true := fun h1 h2 h3 => by
      rw [labelD, all_get _ _ h1, decide_eq_true ⟨by rw [Ne, hl0]; omega, by omega, h2, h3⟩]; rfl
    refine ⟨fun y _ => 0 ≤ y.1 ∧ y.1 ≤ l.length ∧ ∀ j, j < y.1.toNat → lcharD (l.getD j 0) = true ∧ (l.getD j 0 = 45 → j ≠ 0 ∧ j ≠ l.length - 1), fun y _ => ((l.length : Int) - y.1).toNat, ⟨by decide, by omega, fun j hj => by simp at hj⟩, ?_⟩
    rintro ⟨i, b, _⟩ _ _ ⟨i0, i1, i2⟩
    simp only at i0 i1 i2 ⊢
    have hw1 : IntKind.wrap .i64 (i + 1) = i + 1 := wrapK _ (by omega) (by omega)
    rw [hw1]
    have next : lcharD (l.getD i.toNat 0) = true → (l.getD i.toNat 0 = 45 → i ≠ 0 ∧ i ≠ l.length - 1) → i < l.length → (0 ≤ i + 1 ∧ i + 1 ≤ l.length ∧ ∀ j, j < (i + 1).toNat → lcharD (l.getD j 0) = true ∧ (l.getD j 0 = 45 → j ≠ 0 ∧ j ≠ l.length - 1)) ∧ ((l.length : Int) - (i + 1)).toNat < ((l.length : Int) - i).toNat := fun h1 h2 h3 => by
      refine ⟨⟨by omega, by omega, fun j hj => ?_⟩, by omega⟩
      by_cases hji : j < i.toNat
      . exact i2 j hji
      . rw [show j = i.toNat by omega]
        refine ⟨h1, fun e => ?_⟩
        have := h2 e
        omega
    refine ⟨fun hlt => ⟨⟨i0, hlt⟩, ?_⟩, fun hge => (hgood (fun j hj => (i2 j (by omega)).1) (fun e => ((i2 0 (by omega)).2 e).1 rfl) (fun e => ((i2 (l.length - 1) (by omega)).2 e).2 rfl)).symm⟩
    rintro ⟨c, _⟩ _ ec
    simp only at ec ⊢
    refine ⟨fun h => ⟨h, h, i0, hlt⟩, fun h => ⟨h, ?_⟩, fun h => next (by rw [lcharD, ← ec, h]; rfl) (fun e => by rw [e] at ec; rw [ec] at h; cases h) hlt⟩
    have hl1 := ec.symm.trans h
    rintro ⟨d, _⟩ _ ed
    simp only at ed ⊢
    refine ⟨fun h => ⟨h, h, i0, hlt⟩, fun h1 h2 => ⟨h1, h2⟩, fun h1 => ⟨h1, fun h2 => ⟨h1, h2⟩⟩, fun h1 h2 => ⟨h1, h2⟩, fun h1 h2 => ⟨h1, h2⟩, fun h1 h2 => ⟨h1, h2⟩, fun h1 => ⟨h1, fun h2 => ⟨h1, h2⟩⟩, fun h1 => ?_, fun h1 => ?_⟩
    . refine Eq.symm ?_
      obtain ⟨h1, h2⟩ := h1
      have hd := ed.symm.trans h1
      rcases h2 with (h2 | h2) | h2
      . exact badc i.toNat (by omega) (by rw [lcharD, hl1, hd, decide_eq_false h2]; rfl)
      . by_cases e : l.getD i.toNat 0 = 45
        . exact bad0 (by rw [h2] at e; exact e)
        . exact badc i.toNat (by omega) (by rw [lcharD, hl1, hd, decide_eq_false e]; rfl)
      . by_cases e : l.getD i.toNat 0 = 45
        . exact bad1 (by rw [h2, show ((l.length : Int) - 1).toNat = l.length - 1 by omega] at e; exact e)
        . exact badc i.toNat (by omega) (by rw [lcharD, hl1, hd, decide_eq_false e]; rfl)
    . rcases h1 with h1 | h1
      . refine next (by rw [lcharD, hl1, ← ed, h1]; rfl) (fun e => ?_) hlt
        rw [e] at ed
        rw [ed] at h1
        cases h1
      . have e : l.getD i.toNat 0 = 45 := Classical.not_not.1 h1.1.1
        exact next (by rw [e]; decide) (fun _ => ⟨h1.1.2, h1.2⟩) hlt
theorem h54 : c_r13_isLabel.ok Tryz.prog GL 54 := con_ok (H := {}) (mkEnv_ok (gl := GL) (l := [(51, conSem c_r13_letter), (52, conSem c_r13_digit)]) (q := []) (d := []) _ tyOk (by kernel_rfl) ⟨h51.call, h52.call, trivial⟩ trivial trivial) (by kernel_rfl) (by kernel_rfl) (Eq.mp e54 k54)
def t61 : Prop :=
  ∀ (x : q6), (q71 x) -> List.length x.1 <= q88 -> (q147 x) /\ (q144 x) /\ (q144 x) /\ (q145 x) /\ ((q335 x) = false -> True) /\ ((q335 x) = false -> (q334 x) = true /\ (q67 x) /\ True) /\
  ((q335 x) = false -> (q334 x) = true /\ True) /\ ((q335 x) = false -> (q334 x) = true) /\ (q331 x) /\ (q331 x) /\ (q329 x) /\ (q329 x) /\ ((q333 x) = false -> (q332 x) = true /\ (q332 x) =
  true /\ (q40 <= wrZ ((lnZ x.1) - q458) /\ wrZ ((lnZ x.1) - q458) < (lnZ x.1)) /\ True) /\ (q329 x) /\ ((q333 x) = false -> (q332 x) = true) /\ ((q330 x) = false -> True) /\ ((q330 x) =
  false -> ((q330 x) == false) = true /\ List.length x.1 < q38 /\ (∀ (y : q4), (q49 y) -> y.1 = decide (q40 <= idxS x.1 (bs { data := #[q417, q417] })) -> (y.1 = true -> false = localD x.1)
  /\ (y.1 = false -> ∃ (I : q8), ∃ (μ : q9), (q317 x I) /\ ∀ (y : q10) (z : Unit), (q87 y) -> True -> I y z -> (decide (y.1 < (lnZ x.1)) = true -> (q240 y x) /\ True /\ (∀ (y_1 : q4), (q49
  y_1) -> y_1.1 = mcharD (q321 x y) -> ((!y_1.1) = true -> false = localD x.1) /\ (q314 y_1 x I y μ z)) /\ True) /\ (decide (y.1 < (lnZ x.1)) = false -> true = localD x.1))) /\ True) /\
  ((q330 x) = !false -> false = localD x.1)
theorem e61 : t61 = Con.vc c_host_local GL (mkEnv ty [(57, i57), (59, conSem c_strings_Contains)] [] [] [0, 2, 26]) {} Tryz.f61.ntmps Tryz.f61.results.toList (bodyOf Tryz.f61) := by kernel_rfl
theorem k61 : t61 := by
  unfold t61
  delta q6 q71 q88 q147 q144 q145 q335 q334 q67 q331 q329 q333 q332 q40 wrZ lnZ q458 q330 q38 q4 q49 q417 q8 q9 q317 q10 q87 q240 q321 q314 wsZ q455 q421 q508 q509 wbZ wiZ q418 q540 q529
  rintro ⟨l, _⟩ hx hp
  have hp : l.length ≤ 1000000000 := hp
  try dsimp +instances only [dft_int, dft_sl, dft_str]
  simp only [true_and, and_true, eq_self_iff_true, implies_true, reduceCtorEq, false_implies, true_implies, decide_eq_true_eq, decide_eq_false_iff_not, beq_self_eq_true, Bool.not_eq_true', ne_eq, Decidable.not_not, List.nil_append, List.length_singleton, List.length_cons, List.length_nil, Nat.zero_add, Nat.add_zero, Nat.mul_one, and_self, beq_iff_eq, Bool.not_true, Bool.not_false, Bool.not_eq_false', Bool.cond_false_right, Bool.and_eq_true, imp_self, Bool.not_eq_true, Bool.cond_true_left, Bool.or_eq_true]
  have hb : bs { data := #[46, 46] } = [46, 46] := by decide
  rw [bs_nil, hb, idxS_dots]
  have hl0 : l = [] ↔ l.length = 0 := ⟨fun h => by rw [h]; rfl, List.eq_nil_of_length_eq_zero⟩
  have hw : IntKind.wrap .i64 ((l.length : Int) - 1) = l.length - 1 := wrapK _ (by omega) (by omega)
  have ht : ((l.length : Int) - 1).toNat = l.length - 1 := by omega
  rw [hw, ht]
  simp only [hl0, Bool.or_eq_false_iff, decide_eq_false_iff_not]
  refine ⟨fun h => ⟨h, by omega, by omega⟩, fun h => ⟨h, h, by omega, by omega⟩, fun h => ⟨h, by omega, ?_⟩, fun h => ?_⟩
  . rintro ⟨a, _⟩ _ ea
    simp only at ea ⊢
    have hl : localD l = (!dotsD l && l.all mcharD) := by
      rw [localD, decide_eq_true (by rw [Ne, hl0]; omega)]; rfl
    rw [hl, ← ea]
    refine ⟨fun h => by rw [h]; rfl, fun h => ?_⟩
    rw [h]
    show ∃ I μ, _
    refine ⟨fun y _ => 0 ≤ y.1 ∧ y.1 ≤ l.length ∧ ∀ j, j < y.1.toNat → mcharD (l.getD j 0) = true, fun y _ => ((l.length : Int) - y.1).toNat, ⟨by decide, by omega, fun j hj => by simp at hj⟩, ?_⟩
    rintro ⟨i, b, _⟩ _ _ ⟨i0, i1, i2⟩
    simp only at i0 i1 i2 ⊢
    have hw1 : IntKind.wrap .i64 (i + 1) = i + 1 := wrapK _ (by omega) (by omega)
    rw [hw1]
    refine ⟨fun hlt => ⟨⟨i0, hlt⟩, ?_⟩, fun hge => (all_get _ _ (fun j hj => i2 j (by omega))).symm⟩
    rintro ⟨c, _⟩ _ ec
    simp only at ec ⊢
    refine ⟨fun h => (all_not _ _ i.toNat (by omega) (ec.symm.trans h)).symm, fun h => ⟨⟨by omega, by omega, fun j hj => ?_⟩, by omega⟩⟩
    by_cases hji : j < i.toNat
    . exact i2 j hji
    . rw [show j = i.toNat by omega, ← ec]; exact h
  . rw [localD, decide_eq_false (fun hh => by rw [Ne, hl0] at hh; omega)]; rfl
theorem h61 : c_host_local.ok Tryz.prog GL 61 := con_ok (H := {}) (mkEnv_ok (gl := GL) (l := [(57, i57), (59, conSem c_strings_Contains)]) (q := []) (d := []) _ tyOk (by kernel_rfl) ⟨i57_ok, h59.call, trivial⟩ trivial trivial) (by kernel_rfl) (by kernel_rfl) (Eq.mp e61 k61)
noncomputable def i91 : CallSem → CallSem := vcSeq (mkEnv ty [(60, conSem c_strings_Cut)] [] [] [0, 1, 3, 4, 5, 17]) {} Tryz.f91.ntmps Tryz.f91.results.toList (bodyOf Tryz.f91)
theorem i91_ok : SeqOk Tryz.prog GL 91 i91 := seq_ok {} (mkEnv_ok (gl := GL) (l := [(60, conSem c_strings_Cut)]) (q := []) (d := []) _ tyOk (by kernel_rfl) ⟨h60.call, trivial⟩ trivial trivial) (by kernel_rfl) (by kernel_rfl)
noncomputable def i55 : CallSem := vcFn (mkEnv ty [] [] [] [0, 1, 2]) {} Tryz.f55.ntmps Tryz.f55.results.toList (bodyOf Tryz.f55)
theorem i55_ok : CallOk Tryz.prog GL 55 i55 := inl_ok {} (mkEnv_ok (gl := GL) (l := []) (q := []) (d := []) _ tyOk (by kernel_rfl) trivial trivial trivial) (by kernel_rfl) (by kernel_rfl)
def t23 : Prop :=
  ∀ (x : q6), (q71 x) -> List.length x.1 <= q88 -> q42 <= q72 /\ (decide ((253 : Int) < (lnZ x.1)) = true -> false = dnsD x.1) /\ (decide ((253 : Int) < (lnZ x.1)) = false -> q42 <= q72 /\
  List.length [SV.dat Kd.str x.1] <= q72 /\ (List.length x.1 < q38 /\ List.length q459 = q42) /\ (∀ (y : q3), (q43 y) -> y.1 = (q337 x).1 /\ y.2.1 = (q337 x).2.1 /\ y.2.2.1 = (q337 x).2.2 ->
  ∃ (I : Bool × List Int × List Int × Unit -> (Bool × Unit) × q217 × q217 × Unit -> Prop), ∃ (μ : Bool × List Int × List Int × Unit -> (Bool × Unit) × q217 × q217 × Unit -> Nat), (Value.bool
  false = Value.bool false /\ x.1 = x.1 /\ I (y.2.2.1, y.2.1, y.1, ()) ((false, ()), (bs { data := #[] }, ()), (x.1, ()), ())) /\ ∀ (y : Bool × List Int × List Int × Unit) (z : q26), (wbZ y.1
  /\ wsZ y.2.1 /\ wsZ y.2.2.1 /\ True) -> (wbZ z.1.1 /\ True) /\ (wsZ z.2.1.1 /\ True) /\ (wsZ z.2.2.1.1 /\ True) /\ True -> I y z -> List.length y.2.2.1 <= q88 /\ (∀ (y_1 : q4), (q49 y_1) ->
  y_1.1 = labelD y.2.2.1 -> ((!y_1.1) = true -> false = dnsD x.1) /\ ((!y_1.1) = false -> (y.1 = true -> (List.length y.2.1 < q38 /\ List.length q459 = q42) /\ (∀ (y_2 : q3), (q43 y_2) ->
  y_2.1 = (q336 y).1 /\ y_2.2.1 = (q336 y).2.1 /\ y_2.2.2.1 = (q336 y).2.2 -> Value.bool false = Value.bool false /\ x.1 = x.1 /\ I (y_2.2.2.1, y_2.2.1, y_2.1, ()) ((z.1.1, ()), (y.2.2.1,
  ()), (z.2.2.1.1, ()), ()) /\ μ (y_2.2.2.1, y_2.2.1, y_2.1, ()) ((z.1.1, ()), (y.2.2.1, ()), (z.2.2.1.1, ()), ()) < μ y z) /\ True) /\ (y.1 = false -> ∃ (I : Int × Bool × Unit -> (Bool ×
  Unit) × q217 × q217 × Unit -> Prop), ∃ (μ : Int × Bool × Unit -> (Bool × Unit) × q217 × q217 × Unit -> Nat), ((lnZ y.2.2.1) = (lnZ y.2.2.1) /\ y.2.2.1 = y.2.2.1 /\ y.2.2.1 = y.2.2.1 /\
  Value.bool false = Value.bool false /\ x.1 = x.1 /\ I (q40, false, ()) ((z.1.1, ()), (y.2.2.1, ()), (z.2.2.1.1, ()), ())) /\ ∀ (y_2 : q10) (z : q26), (q87 y_2) -> (wbZ z.1.1 /\ True) /\
  (wsZ z.2.1.1 /\ True) /\ (wsZ z.2.2.1.1 /\ True) /\ True -> I y_2 z -> (decide (y_2.1 < (lnZ y.2.2.1)) = true -> (q40 <= y_2.1 /\ y_2.1 < (lnZ y.2.2.1)) /\ True /\ (∀ (y_3 : q4), (q49 y_3)
  -> y_3.1 = digitD (List.getD y.2.2.1 (q418 y_2) q40) -> ((!y_3.1) = true -> (!false) = dnsD x.1) /\ ((!y_3.1) = false -> (lnZ y.2.2.1) = (lnZ y.2.2.1) /\ y.2.2.1 = y.2.2.1 /\ y.2.2.1 =
  y.2.2.1 /\ Value.bool false = Value.bool false /\ x.1 = x.1 /\ I (wrZ (q89 y_2), y_2.2.1, ()) ((z.1.1, ()), (z.2.1.1, ()), (z.2.2.1.1, ()), ()) /\ μ (wrZ (q89 y_2), y_2.2.1, ()) ((z.1.1,
  ()), (z.2.1.1, ()), (z.2.2.1.1, ()), ()) < μ y_2 z)) /\ True) /\ (decide (y_2.1 < (lnZ y.2.2.1)) = false -> (!true) = dnsD x.1)))) /\ True) /\ True)
theorem e23 : t23 = Con.vc c_host_DNS GL (mkEnv ty [(55, i55), (56, conSem c_host_label), (57, i57)] [(91, i91)] [] [0, 2, 3, 4, 7, 9, 10, 13]) {} Tryz.f23.ntmps Tryz.f23.results.toList (bodyOf Tryz.f23) := by kernel_rfl
theorem k23 : t23 := by
  unfold t23
  delta q6 q71 q88 q42 q72 lnZ q38 q459 q3 q43 q337 q217 q26 wbZ wsZ q4 q49 q336 q40 q10 q87 q418 wrZ q89 q437 q421 wiZ q458
  rintro ⟨l, _⟩ hx hp
  have hp : l.length ≤ 1000000000 := hp
  try dsimp +instances only [dft_int, dft_sl, dft_str]
  simp only [true_and, and_true, eq_self_iff_true, implies_true, reduceCtorEq, false_implies, true_implies, decide_eq_true_eq, decide_eq_false_iff_not, beq_self_eq_true, Bool.not_eq_true', ne_eq, Decidable.not_not, List.nil_append, List.length_singleton, List.length_cons, List.length_nil, Nat.zero_add, Nat.add_zero, Nat.mul_one, and_self, beq_iff_eq, Bool.not_true, Bool.not_false, Bool.not_eq_false', Bool.cond_false_right, Bool.and_eq_true, imp_self, Bool.not_eq_true, Bool.cond_true_left, Bool.or_eq_true]
  have hb : bs { data := #[46] } = [46] := by decide
  have hd : ([46] : List Int).getD 0 0 = 46 := rfl
  rw [hb, hd, bs_nil]
  refine ⟨by decide, fun h => (dns_long (by omega)).symm, fun hn => ⟨by decide, by decide, ⟨by omega, rfl⟩, ?_⟩⟩
  rintro ⟨wd, rest, more, _⟩ _ ⟨e1, e2, e3⟩
  simp only at e1 e2 e3 ⊢
  have hcl := cutD_len l 46
  refine ⟨fun y _ => y.2.2.1.length ≤ l.length ∧ y.2.1.length ≤ l.length ∧ ∃ P, P.all labelD = true ∧ labelsD l = P ++ (y.2.2.1 :: if y.1 then labelsD y.2.1 else []), fun y _ => if y.1 then y.2.1.length + 1 else 0,
    ⟨by rw [e1]; exact hcl.1, by rw [e2]; exact hcl.2, [], rfl, by rw [e1, e2, e3]; exact labels_cut l⟩, ?_⟩
  rintro ⟨mo, re, w, _⟩ ⟨⟨z1, _⟩, ⟨z2, _⟩, ⟨z3, _⟩, _⟩ _ _ ⟨w1, w2, P, hP, hW⟩
  simp only at w1 w2 hW ⊢
  refine ⟨by omega, ?_⟩
  rintro ⟨b, _⟩ _ eb
  simp only at eb ⊢
  refine ⟨fun h => (dns_bad (w := w) (by rw [hW]; simp) (eb.symm.trans h)).symm, fun h => ⟨fun hm => ⟨⟨by omega, rfl⟩, ?_⟩, fun hm => ?_⟩⟩
  . rintro ⟨wd', re', mo', _⟩ _ ⟨f1, f2, f3⟩
    simp only at f1 f2 f3 ⊢
    have hcl := cutD_len re 46
    have hj := congrArg List.length (cutD_join re 46)
    rw [← f1, ← f2, ← f3] at hj
    rw [← f1, ← f2] at hcl
    refine ⟨⟨by omega, by omega, P ++ [w], ?_, ?_⟩, ?_⟩
    . rw [List.all_append, hP]
      simp [← eb, h]
    . rw [hW, hm, f1, f2, f3]
      simp only [if_true]
      rw [labels_cut re, List.append_assoc]
      rfl
    . rw [hm]
      simp only [if_true]
      split
      . rename_i hmo
        rw [hmo] at hj
        simp at hj
        omega
      . omega
  . have hWe : labelsD l = P ++ [w] := by rw [hW, hm]; rfl
    have hdn : dnsD l = !w.all digitD := by
      rw [dns_last (by omega) (by rw [hWe, List.all_append, hP]; simp [← eb, h]), hWe, last_snoc]
    rw [hdn]
    refine ⟨fun y _ => 0 ≤ y.1 ∧ y.1 ≤ w.length ∧ ∀ j, j < y.1.toNat → digitD (w.getD j 0) = true, fun y _ => ((w.length : Int) - y.1).toNat, ⟨Int.le_refl 0, by simp only; omega, fun j hj => by simp at hj⟩, ?_⟩
    rintro ⟨i, b2, _⟩ z _ _ ⟨i0, i1, i2⟩
    simp only at i0 i1 i2 ⊢
    have hw1 : IntKind.wrap .i64 (i + 1) = i + 1 := wrapK _ (by omega) (by omega)
    rw [hw1]
    refine ⟨fun hlt => ⟨⟨i0, hlt⟩, ?_⟩, fun hge => by rw [all_get _ _ (fun j hj => i2 j (by omega))]; rfl⟩
    rintro ⟨c, _⟩ _ ec
    simp only at ec ⊢
    refine ⟨fun h => by rw [all_not _ _ i.toNat (by omega) (ec.symm.trans h)]; rfl, fun h => ⟨⟨by omega, by omega, fun j hj => ?_⟩, by omega⟩⟩
    by_cases hji : j < i.toNat
    . exact i2 j hji
    . rw [show j = i.toNat by omega, ← ec]; exact h
theorem h23 : c_host_DNS.ok Tryz.prog GL 23 := con_ok (H := {}) (mkEnv_ok (gl := GL) (l := [(55, i55), (56, conSem c_host_label), (57, i57)]) (q := [(91, i91)]) (d := []) _ tyOk (by kernel_rfl) ⟨i55_ok, h56.call, i57_ok, trivial⟩ ⟨i91_ok, trivial⟩ trivial) (by kernel_rfl) (by kernel_rfl) (Eq.mp e23 k23)
def t53 : Prop :=
  ∀ (x : q6), (q71 x) -> List.length x.1 <= q88 -> ∃ (I : Int × Int × Unit -> List (List Int) × Unit -> Prop), ∃ (μ : Int × Int × Unit -> List (List Int) × Unit -> Nat), (Value.slice none q74
  q74 = Value.slice none q74 q74 /\ x.1 = x.1 /\ I (q40, q40, ()) ([], ())) /\ ∀ (y : q7) (z : q18), (q99 y) -> (q181 z) -> I y z -> (decide (y.1 < (lnZ x.1)) = true -> (q40 <= y.1 /\ y.1 <
  (lnZ x.1)) /\ (decide (List.getD x.1 (q103 y) q40 = (46 : Int)) = true -> (q40 <= y.2.1 /\ y.2.1 <= y.1 /\ y.1 <= (lnZ x.1)) /\ q74 < q42 /\ (List.length z.1 + List.length [List.drop (q100
  y) (q182 y x)]) * (16 : Nat) <= q158 /\ List.length z.1 + List.length [List.drop (q100 y) (q182 y x)] <= q157 /\ Value.slice none q74 q74 = Value.slice none q74 q74 /\ x.1 = x.1 /\ I (wrZ
  (q101 y), wrZ (q101 y), ()) (z.1 ++ [List.drop (q100 y) (q182 y x)], ()) /\ μ (wrZ (q101 y), wrZ (q101 y), ()) (z.1 ++ [List.drop (q100 y) (q182 y x)], ()) < μ y z) /\ (decide (List.getD
  x.1 (q103 y) q40 = (46 : Int)) = false -> Value.slice none q74 q74 = Value.slice none q74 q74 /\ x.1 = x.1 /\ I (wrZ (q101 y), y.2.1, ()) (z.1, ()) /\ μ (wrZ (q101 y), y.2.1, ()) (z.1, ())
  < μ y z)) /\ (decide (y.1 < (lnZ x.1)) = false -> (q40 <= y.2.1 /\ y.2.1 <= (lnZ x.1)) /\ q74 < q42 /\ (List.length z.1 + List.length [List.drop (q100 y) x.1]) * (16 : Nat) <= q158 /\
  List.length z.1 + List.length [List.drop (q100 y) x.1] <= q157 /\ z.1 ++ [List.drop (q100 y) x.1] = labelsD x.1)
theorem e53 : t53 = Con.vc c_r13_Labels GL (mkEnv ty [] [] [] [0, 2, 3, 4, 5, 9, 15]) {} Tryz.f53.ntmps Tryz.f53.results.toList (bodyOf Tryz.f53) := by kernel_rfl
theorem k53 : t53 := by
  unfold t53
  delta q6 q71 q88 q74 q40 q7 q18 q99 q181 lnZ q103 q42 q100 q182 q158 q157 wrZ q101 wsZ wiZ q458
  rintro ⟨l, _⟩ hx hp
  have hp : l.length ≤ 1000000000 := hp
  try dsimp +instances only [dft_int, dft_sl, dft_str]
  simp only [true_and, and_true, eq_self_iff_true, implies_true, reduceCtorEq, false_implies, true_implies, decide_eq_true_eq, decide_eq_false_iff_not, beq_self_eq_true, Bool.not_eq_true', ne_eq, Decidable.not_not, List.nil_append, List.length_singleton, List.length_cons, List.length_nil, Nat.zero_add, Nat.add_zero, Nat.mul_one, and_self, beq_iff_eq, Bool.not_true, Bool.not_false, Bool.not_eq_false', Bool.cond_false_right, Bool.and_eq_true, imp_self, Bool.not_eq_true, Bool.cond_true_left, Bool.or_eq_true]
  refine ⟨fun y z => 0 ≤ y.2.1 ∧ y.2.1 ≤ y.1 ∧ y.1 ≤ l.length ∧ (z.1.length : Int) ≤ y.1 ∧ labelsD l = z.1 ++ splitA 46 ((l.take y.1.toNat).drop y.2.1.toNat) (l.drop y.1.toNat), fun y _ => ((l.length : Int) - y.1).toNat, ⟨Int.le_refl 0, Int.le_refl 0, by simp only; omega, by simp, rfl⟩, ?_⟩
  rintro ⟨i, f, _⟩ ⟨z, _⟩ _ _ ⟨f0, f1, i1, z1, hW⟩
  simp only at f0 f1 i1 z1 hW ⊢
  have hw1 : IntKind.wrap .i64 (i + 1) = i + 1 := wrapK _ (by omega) (by omega)
  rw [hw1]
  refine ⟨fun hlt => ⟨⟨by omega, hlt⟩, fun hc => ⟨⟨f0, f1, i1⟩, by decide, by omega, by omega, ⟨by omega, by omega, by omega, by simp; omega, ?_⟩, by omega⟩, fun hc => ⟨⟨f0, by omega, by omega, by omega, ?_⟩, by omega⟩⟩, fun hge => ⟨⟨f0, by omega⟩, by decide, by omega, by omega, ?_⟩⟩
  . rw [hW, drop_cons l i.toNat (by omega), hc, splitA, if_pos rfl, List.append_assoc, show (i + 1).toNat = i.toNat + 1 by omega, List.drop_of_length_le (by simp; omega : (l.take (i.toNat + 1)).length ≤ i.toNat + 1)]
    rfl
  . rw [hW, drop_cons l i.toNat (by omega), splitA, if_neg hc, show (i + 1).toNat = i.toNat + 1 by omega, take_snoc l i.toNat (by omega), List.drop_append_of_le_length (by simp; omega)]
  . rw [hW, List.drop_of_length_le (by omega : l.length ≤ i.toNat), List.take_of_length_le (by omega : l.length ≤ i.toNat)]
    rfl
theorem h53 : c_r13_Labels.ok Tryz.prog GL 53 := con_ok (H := {}) (mkEnv_ok (gl := GL) (l := []) (q := []) (d := []) _ tyOk (by kernel_rfl) trivial trivial trivial) (by kernel_rfl) (by kernel_rfl) (Eq.mp e53 k53)
def t20 : Prop :=
  ∀ (x : q6), (q71 x) -> List.length x.1 <= q88 -> (decide ((253 : Int) < (lnZ x.1)) = true -> false = dnsD x.1) /\ (decide ((253 : Int) < (lnZ x.1)) = false -> List.length x.1 <= q88 /\ (∀
  (y : q18), (q181 y) -> y.1 = labelsD x.1 -> ∃ (I : q8), ∃ (μ : q9), (Value.bool false = Value.bool false /\ x.1 = x.1 /\ y.1 = y.1 /\ I (q40, false, ()) ()) /\ ∀ (y_1 : q10) (z : Unit),
  (q87 y_1) -> True -> I y_1 z -> (decide (y_1.1 < (lnZ y.1)) = true -> (q40 <= y_1.1 /\ y_1.1 < (lnZ y.1)) /\ List.length (List.getD y.1 (q418 y_1) q425) <= q88 /\ (∀ (y_2 : q4), (q49 y_2)
  -> y_2.1 = labelD (List.getD y.1 (q418 y_1) q425) -> ((!y_2.1) = true -> false = dnsD x.1) /\ ((!y_2.1) = false -> Value.bool false = Value.bool false /\ x.1 = x.1 /\ y.1 = y.1 /\ I (wrZ
  (q89 y_1), y_1.2.1, ()) () /\ μ (wrZ (q89 y_1), y_1.2.1, ()) () < μ y_1 z)) /\ True) /\ (decide (y_1.1 < (lnZ y.1)) = false -> (q40 <= wrZ ((lnZ y.1) - q458) /\ wrZ ((lnZ y.1) - q458) <
  (lnZ y.1)) /\ ∃ (I : q8), ∃ (μ : q9), (List.getD y.1 (q339 y) q425 = List.getD y.1 (q339 y) q425 /\ Value.bool false = Value.bool false /\ y_1.1 = y_1.1 /\ Value.bool false = Value.bool
  false /\ x.1 = x.1 /\ y.1 = y.1 /\ I (q40, y_1.2.1, ()) ()) /\ ∀ (y_2 : q10) (z : Unit), (q87 y_2) -> True -> I y_2 z -> (decide (y_2.1 < (q338 y)) = true -> (q40 <= y_2.1 /\ y_2.1 < (q338
  y)) /\ True /\ (∀ (y_3 : q4), (q49 y_3) -> y_3.1 = digitD (List.getD (List.getD y.1 (Int.toNat (wrZ ((lnZ y.1) - q458))) q425) (q418 y_2) q40) -> ((!y_3.1) = true -> true = dnsD x.1) /\
  ((!y_3.1) = false -> List.getD y.1 (q339 y) q425 = List.getD y.1 (q339 y) q425 /\ Value.bool false = Value.bool false /\ y_1.1 = y_1.1 /\ Value.bool false = Value.bool false /\ x.1 = x.1 /\
  y.1 = y.1 /\ I (wrZ (q89 y_2), y_2.2.1, ()) () /\ μ (wrZ (q89 y_2), y_2.2.1, ()) () < μ y_2 z)) /\ True) /\ (decide (y_2.1 < (q338 y)) = false -> false = dnsD x.1))) /\ True)
theorem e20 : t20 = Con.vc c_r13_DNS GL (mkEnv ty [(53, conSem c_r13_Labels), (54, conSem c_r13_isLabel), (52, conSem c_r13_digit)] [] [] [0, 2, 3, 4, 5, 6, 9, 15, 23, 33, 40]) {} Tryz.f20.ntmps Tryz.f20.results.toList (bodyOf Tryz.f20) := by kernel_rfl
theorem k20 : t20 := by
  unfold t20
  delta q6 q71 q88 lnZ q18 q181 q8 q9 q40 q10 q87 q418 q425 q4 q49 wrZ q89 q458 q339 q338 wsZ wiZ wbZ
  rintro ⟨l, _⟩ hx hp
  have hp : l.length ≤ 1000000000 := hp
  try dsimp +instances only [dft_int, dft_sl, dft_str]
  simp only [true_and, and_true, eq_self_iff_true, implies_true, reduceCtorEq, false_implies, true_implies, decide_eq_true_eq, decide_eq_false_iff_not, beq_self_eq_true, Bool.not_eq_true', ne_eq, Decidable.not_not, List.nil_append, List.length_singleton, List.length_cons, List.length_nil, Nat.zero_add, Nat.add_zero, Nat.mul_one, and_self, beq_iff_eq, Bool.not_true, Bool.not_false, Bool.not_eq_false', Bool.cond_false_right, Bool.and_eq_true, imp_self, Bool.not_eq_true, Bool.cond_true_left, Bool.or_eq_true]
  refine ⟨fun h => (dns_long (by omega)).symm, fun hn => ⟨hp, ?_⟩⟩
  rintro ⟨W, _⟩ _ eW
  simp only at eW ⊢
  have hWl := labels_len l
  rw [← eW] at hWl
  have hmem : ∀ i, i < W.length → W.getD i [] ∈ labelsD l := fun i hi => by rw [← eW]; exact mem_getD [] W i hi
  refine ⟨fun y _ => 0 ≤ y.1 ∧ y.1 ≤ W.length ∧ ∀ j, j < y.1.toNat → labelD (W.getD j []) = true, fun y _ => ((W.length : Int) - y.1).toNat, ⟨Int.le_refl 0, by simp only; omega, fun j hj => by simp at hj⟩, ?_⟩
  rintro ⟨i, b, _⟩ _ _ ⟨i0, i1, i2⟩
  simp only at i0 i1 i2 ⊢
  have hw1 : IntKind.wrap .i64 (i + 1) = i + 1 := wrapK _ (by omega) (by omega)
  have hw2 : IntKind.wrap .i64 ((W.length : Int) - 1) = W.length - 1 := wrapK _ (by omega) (by omega)
  have hw3 : ((W.length : Int) - 1).toNat = W.length - 1 := by omega
  rw [hw1, hw2, hw3]
  refine ⟨fun hlt => ⟨⟨i0, hlt⟩, ?_, ?_⟩, fun hge => ⟨⟨by omega, by omega⟩, ?_⟩⟩
  . have := labelH_len (hmem i.toNat (by omega))
    omega
  . rintro ⟨c, _⟩ _ ec
    simp only at ec ⊢
    refine ⟨fun h => (dns_bad (hmem i.toNat (by omega)) (ec.symm.trans h)).symm, fun h => ⟨⟨by omega, by omega, fun j hj => ?_⟩, by omega⟩⟩
    by_cases hji : j < i.toNat
    . exact i2 j hji
    . rw [show j = i.toNat by omega, ← ec]; exact h
  . have hdn : dnsD l = !(W.getD (W.length - 1) []).all digitD := by
      rw [dns_last (by omega) (by rw [← eW]; exact all_getA [] _ _ (fun j hj => i2 j (by omega))), ← eW, last_get W hWl.2]
    rw [hdn]
    have hll := labelH_len (hmem (W.length - 1) (by omega))
    generalize W.getD (W.length - 1) [] = w at hll ⊢
    refine ⟨fun y _ => 0 ≤ y.1 ∧ y.1 ≤ w.length ∧ ∀ j, j < y.1.toNat → digitD (w.getD j 0) = true, fun y _ => ((w.length : Int) - y.1).toNat, ⟨Int.le_refl 0, by simp only; omega, fun j hj => by simp at hj⟩, ?_⟩
    rintro ⟨i, b2, _⟩ z _ ⟨i0, i1, i2⟩
    simp only at i0 i1 i2 ⊢
    have hw1 : IntKind.wrap .i64 (i + 1) = i + 1 := wrapK _ (by omega) (by omega)
    rw [hw1]
    refine ⟨fun hlt => ⟨⟨i0, hlt⟩, ?_⟩, fun hge => by rw [all_get _ _ (fun j hj => i2 j (by omega))]; rfl⟩
    rintro ⟨c, _⟩ _ ec
    simp only at ec ⊢
    refine ⟨fun h => by rw [all_not _ _ i.toNat (by omega) (ec.symm.trans h)]; rfl, fun h => ⟨⟨by omega, by omega, fun j hj => ?_⟩, by omega⟩⟩
    by_cases hji : j < i.toNat
    . exact i2 j hji
    . rw [show j = i.toNat by omega, ← ec]; exact h
theorem h20 : c_r13_DNS.ok Tryz.prog GL 20 := con_ok (H := {}) (mkEnv_ok (gl := GL) (l := [(53, conSem c_r13_Labels), (54, conSem c_r13_isLabel), (52, conSem c_r13_digit)]) (q := []) (d := []) _ tyOk (by kernel_rfl) ⟨h53.call, h54.call, h52.call, trivial⟩ trivial trivial) (by kernel_rfl) (by kernel_rfl) (Eq.mp e20 k20)
def t24 : Prop :=
  ∀ (x : q6), (q71 x) -> List.length x.1 <= q88 -> True /\ (∀ (y : q5), (q50 y) -> (y.1 = if hasP q341 x.1 = true then List.drop (List.length q341) x.1 else x.1) /\ y.2.1 = hasP q341 x.1 ->
  (y.2.1 = true -> True) /\ (y.2.1 = true -> (y.2.1 == true) = true /\ True) /\ (y.2.1 = true -> (y.2.1 == true) = true /\ True) /\ (y.2.1 = true -> (y.2.1 == true) = true) /\ ((q340 y x) =
  true -> True) /\ ((q340 y x) = true -> ((q340 y x) == true) = true /\ List.length y.1 < q38 /\ (∀ (y_1 : q4), (q49 y_1) -> y_1.1 = decide (q40 <= idxS y.1 q459) -> (y_1.1 = true -> True) /\
  (y_1.1 = true -> (y_1.1 == true) = true /\ List.length y.1 <= q88 /\ (∀ (y_2 : q4), (q49 y_2) -> y_2.1 = dnsD y.1 -> y_2.1 = wildD x.1) /\ True) /\ (y_1.1 = !true -> false = wildD x.1)) /\
  True) /\ ((q340 y x) = !true -> false = wildD x.1)) /\ True
theorem e24 : t24 = Con.vc c_host_Wild GL (mkEnv ty [(30, conSem c_strings_CutPrefix), (59, conSem c_strings_Contains), (23, conSem c_host_DNS)] [] [] [0, 2, 3, 4]) {} Tryz.f24.ntmps Tryz.f24.results.toList (bodyOf Tryz.f24) := by kernel_rfl
theorem k24 : t24 := by
  unfold t24
  delta q6 q71 q88 q5 q50 q341 q340 q38 q4 q49 q40 q459 wsZ wbZ q417 lnZ
  rintro ⟨l, _⟩ hx hp
  have hp : l.length ≤ 1000000000 := hp
  try dsimp +instances only [dft_int, dft_sl, dft_str]
  simp only [true_and, and_true, eq_self_iff_true, implies_true, reduceCtorEq, false_implies, true_implies, decide_eq_true_eq, decide_eq_false_iff_not, beq_self_eq_true, Bool.not_eq_true', ne_eq, Decidable.not_not, List.nil_append, List.length_singleton, List.length_cons, List.length_nil, Nat.zero_add, Nat.add_zero, Nat.mul_one, and_self, beq_iff_eq, Bool.not_true, Bool.not_false, Bool.not_eq_false', Bool.cond_false_right, Bool.and_eq_true, imp_self, Bool.not_eq_true, Bool.cond_true_left, Bool.or_eq_true]
  have hb : bs { data := #[46] } = [46] := by decide
  have hb2 : bs { data := #[42, 46] } = [42, 46] := by decide
  rw [hb, hb2]
  rintro ⟨a, b, _⟩ _ ⟨ea, eb⟩
  simp only at ea eb ⊢
  have hal : a.length ≤ l.length := by rw [ea]; split <;> simp
  refine ⟨fun h => ⟨h, by omega, ?_⟩, fun h => ?_⟩
  . have hh : hasP [42, 46] l = true := eb.symm.trans h.1
    rw [if_pos hh] at ea
    have ea : a = l.drop 2 := ea
    rintro ⟨c, _⟩ _ ec
    simp only at ec ⊢
    rw [contains_one, ea] at ec
    have hwd : wildD l = (c && dnsD a) := by
      rw [wildD, hh, decide_eq_true (show l.length ≤ 253 by omega), ← ec, ← ea]; rfl
    rw [hwd]
    refine ⟨fun hc => ⟨hc, by omega, ?_⟩, fun hc => by rw [hc]; rfl⟩
    rintro ⟨d, _⟩ _ ed
    simp only at ed ⊢
    rw [hc, ed]; rfl
  . rw [eb] at h
    rw [wildD, ← Bool.and_assoc, show decide (l.length ≤ 253) = decide ((l.length : Int) ≤ 253) from decide_eq_decide.2 (by omega), h]; rfl
theorem h24 : c_host_Wild.ok Tryz.prog GL 24 := con_ok (H := {}) (mkEnv_ok (gl := GL) (l := [(30, conSem c_strings_CutPrefix), (59, conSem c_strings_Contains), (23, conSem c_host_DNS)]) (q := []) (d := []) _ tyOk (by kernel_rfl) ⟨h30.call, h59.call, h23.call, trivial⟩ trivial trivial) (by kernel_rfl) (by kernel_rfl) (Eq.mp e24 k24)
def t21 : Prop :=
  ∀ (x : q6), (q71 x) -> List.length x.1 <= q88 -> (decide (q208 x) = true -> True) /\ (q226 x) /\ (q226 x) /\ (decide (q208 x) = true -> (decide (q440 x) == true) = true) /\ ((q344 x) = true
  -> True) /\ ((q344 x) = true -> (q343 x) = true /\ (q40 <= q77 /\ q77 <= (lnZ x.1)) /\ True) /\ ((q344 x) = true -> (q343 x) = true /\ True) /\ ((q344 x) = true -> (q343 x) = true) /\
  ((q342 x) = true -> True) /\ ((q342 x) = true -> ((q342 x) == true) = true /\ List.length x.1 <= q88 /\ (∀ (y : q18), (q181 y) -> y.1 = labelsD x.1 -> (decide (q77 < (lnZ y.1)) = true ->
  True) /\ (decide (q77 < (lnZ y.1)) = true -> (decide (q77 < (lnZ y.1)) == true) = true /\ (q40 <= q77 /\ q77 <= (lnZ x.1)) /\ True) /\ (decide (q77 < (lnZ y.1)) = true -> (decide (q77 <
  (lnZ y.1)) == true) = true /\ List.length (List.drop (2 : Nat) x.1) <= q88 /\ (∀ (y : q4), (q49 y) -> y.1 = dnsD (List.drop (2 : Nat) x.1) -> y.1 = wildD x.1) /\ True) /\ (decide (q77 <
  (lnZ y.1)) = !true -> false = wildD x.1)) /\ True) /\ ((q342 x) = !true -> false = wildD x.1)
theorem e21 : t21 = Con.vc c_r13_Wild GL (mkEnv ty [(53, conSem c_r13_Labels), (20, conSem c_r13_DNS)] [] [] [0, 2]) {} Tryz.f21.ntmps Tryz.f21.results.toList (bodyOf Tryz.f21) := by kernel_rfl
theorem k21 : t21 := by
  unfold t21
  delta q6 q71 q88 q208 q226 q440 q344 q343 q40 q77 lnZ q342 q18 q181 q4 q49 wsZ q445 q417 wbZ
  rintro ⟨l, _⟩ hx hp
  have hp : l.length ≤ 1000000000 := hp
  try dsimp +instances only [dft_int, dft_sl, dft_str]
  simp only [true_and, and_true, eq_self_iff_true, implies_true, reduceCtorEq, false_implies, true_implies, decide_eq_true_eq, decide_eq_false_iff_not, beq_self_eq_true, Bool.not_eq_true', ne_eq, Decidable.not_not, List.nil_append, List.length_singleton, List.length_cons, List.length_nil, Nat.zero_add, Nat.add_zero, Nat.mul_one, and_self, beq_iff_eq, Bool.not_true, Bool.not_false, Bool.not_eq_false', Bool.cond_false_right, Bool.and_eq_true, imp_self, Bool.not_eq_true, Bool.cond_true_left, Bool.or_eq_true]
  have hb2 : bs { data := #[42, 46] } = [42, 46] := by decide
  rw [hb2]
  have hh : hasP [42, 46] l = decide (l.take 2 = [42, 46]) := rfl
  refine ⟨fun h => ⟨h, by decide, by omega⟩, fun h => ⟨h, hp, ?_⟩, fun h => ?_⟩
  . have hy : hasP [42, 46] l = true := by rw [hh, decide_eq_true h.2]
    obtain ⟨r, rfl⟩ := hasP_iff.1 hy
    rintro ⟨W, _⟩ _ eW
    simp only at eW ⊢
    have e1 : labelsD ([42, 46] ++ r) = [42] :: labelsD r := rfl
    have e2 : ([42, 46] ++ r : List Int).drop 2 = r := rfl
    have e3 := labels_two r
    have hwd : wildD ([42, 46] ++ r) = (decide (46 ∈ r) && dnsD r) := by
      have hle : ([42, 46] ++ r : List Int).length ≤ 253 := by omega
      rw [wildD, hy, decide_eq_true hle, e2]; rfl
    rw [e1] at eW
    have hl : W.length = (labelsD r).length + 1 := by rw [eW, List.length_cons]
    rw [e2, hwd]
    simp only [List.length_append, List.length_cons, List.length_nil] at hp
    refine ⟨fun h2 => ⟨h2, by decide, by simp; omega⟩, fun h2 => ⟨h2, by omega, ?_⟩, fun h2 => ?_⟩
    . rintro ⟨d, _⟩ _ ed
      simp only at ed ⊢
      rw [decide_eq_true (e3.1 (by omega)), ed]; rfl
    . rw [decide_eq_false (fun hc => by have := e3.2 hc; omega)]; rfl
  . refine Eq.symm ?_
    cases hw : wildD l with
    | false => rfl
    | true =>
      exfalso
      obtain ⟨r, rfl, h1, h2, h3⟩ := wild_form hw
      have h4 : r.length ≠ 0 := fun e => by rw [List.eq_nil_of_length_eq_zero e] at h2; cases h2
      simp only [Bool.and_eq_false_iff, decide_eq_false_iff_not] at h
      simp only [List.length_cons] at h h1
      rcases h with (h | h) | h
      . omega
      . omega
      . exact h rfl
theorem h21 : c_r13_Wild.ok Tryz.prog GL 21 := con_ok (H := {}) (mkEnv_ok (gl := GL) (l := [(53, conSem c_r13_Labels), (20, conSem c_r13_DNS)]) (q := []) (d := []) _ tyOk (by kernel_rfl) ⟨h53.call, h20.call, trivial⟩ trivial trivial) (by kernel_rfl) (by kernel_rfl) (Eq.mp e21 k21)
def t25 : Prop :=
  ∀ (x : q6), (q71 x) -> List.length x.1 <= q88 -> (List.length x.1 < q38 /\ List.length (bs { data := #[(64 : UInt8)] }) = q42) /\ (∀ (y : q3), (q43 y) -> y.1 = (q345 x).1 /\ y.2.1 = (q345
  x).2.1 /\ y.2.2.1 = (q345 x).2.2 -> (y.2.2.1 = true -> True) /\ (y.2.2.1 = true -> (y.2.2.1 == true) = true /\ List.length y.1 <= q88 /\ (∀ (y_1 : q4), (q49 y_1) -> y_1.1 = localD y.1 ->
  (y_1.1 = true -> True) /\ (y_1.1 = true -> (y_1.1 == true) = true /\ List.length y.2.1 <= q88 /\ (∀ (y_2 : q4), (q49 y_2) -> y_2.1 = dnsD y.2.1 -> y_2.1 = emailD x.1) /\ True) /\ (y_1.1 =
  !true -> false = emailD x.1)) /\ True) /\ (y.2.2.1 = !true -> false = emailD x.1)) /\ True
theorem e25 : t25 = Con.vc c_host_Email GL (mkEnv ty [(60, conSem c_strings_Cut), (61, conSem c_host_local), (23, conSem c_host_DNS)] [] [] [0, 2, 3, 4, 5]) {} Tryz.f25.ntmps Tryz.f25.results.toList (bodyOf Tryz.f25) := by kernel_rfl
theorem k25 : t25 := by
  unfold t25
  delta q6 q71 q88 q38 q42 q3 q43 q345 q4 q49 wsZ wbZ q437 q421
  rintro ⟨l, _⟩ hx hp
  have hp : l.length ≤ 1000000000 := hp
  try dsimp +instances only [dft_int, dft_sl, dft_str]
  simp only [true_and, and_true, eq_self_iff_true, implies_true, reduceCtorEq, false_implies, true_implies, decide_eq_true_eq, decide_eq_false_iff_not, beq_self_eq_true, Bool.not_eq_true', ne_eq, Decidable.not_not, List.nil_append, List.length_singleton, List.length_cons, List.length_nil, Nat.zero_add, Nat.add_zero, Nat.mul_one, and_self, beq_iff_eq, Bool.not_true, Bool.not_false, Bool.not_eq_false', Bool.cond_false_right, Bool.and_eq_true, imp_self, Bool.not_eq_true, Bool.cond_true_left, Bool.or_eq_true]
  have hb : bs { data := #[64] } = [64] := by decide
  have hd : ([64] : List Int).getD 0 0 = 64 := rfl
  rw [hb, hd]
  have hcl := cutD_len l 64
  refine ⟨⟨by omega, rfl⟩, ?_⟩
  rintro ⟨a, b, c, _⟩ _ ⟨ea, eb, ec⟩
  simp only at ea eb ec ⊢
  have he : emailD l = (c && (localD a && dnsD b)) := by rw [emailD, ea, eb, ec]
  rw [he]
  rw [← ea, ← eb] at hcl
  refine ⟨fun h => ⟨h, by omega, ?_⟩, fun h => by rw [h]; rfl⟩
  rintro ⟨u, _⟩ _ eu
  simp only at eu ⊢
  rw [h, ← eu]
  refine ⟨fun h => ⟨h, by omega, ?_⟩, fun h => by rw [h]; rfl⟩
  rintro ⟨v, _⟩ _ ev
  simp only at ev ⊢
  rw [h, ev]; rfl
theorem h25 : c_host_Email.ok Tryz.prog GL 25 := con_ok (H := {}) (mkEnv_ok (gl := GL) (l := [(60, conSem c_strings_Cut), (61, conSem c_host_local), (23, conSem c_host_DNS)]) (q := []) (d := []) _ tyOk (by kernel_rfl) ⟨h60.call, h61.call, h23.call, trivial⟩ trivial trivial) (by kernel_rfl) (by kernel_rfl) (Eq.mp e25 k25)
def t19 : Prop :=
  ∀ (x : q6), (q71 x) -> List.length x.1 <= q88 -> ∃ (I : q13), ∃ (μ : Int × Unit -> Unit -> Nat), (Value.bool false = Value.bool false /\ x.1 = x.1 /\ I (q40, ()) ()) /\ ∀ (y : q1) (z :
  Unit), (q36 y) -> True -> I y z -> (decide (y.1 < (lnZ x.1)) = true -> True) /\ (decide (y.1 < (lnZ x.1)) = true -> True) /\ (decide (y.1 < (lnZ x.1)) = true -> (decide (y.1 < (lnZ x.1)) ==
  true) = true /\ (decide (y.1 < (lnZ x.1)) == true) = true /\ (q40 <= y.1 /\ y.1 < (lnZ x.1)) /\ True) /\ (decide (y.1 < (lnZ x.1)) = true -> (decide (y.1 < (lnZ x.1)) == true) = true /\
  True) /\ (decide (y.1 < (lnZ x.1)) = true -> (decide (y.1 < (lnZ x.1)) == true) = true) /\ ((bif decide (y.1 < (lnZ x.1)) then decide (List.getD x.1 (q411 y) q40 ≠ (64 : Int)) else false) =
  true -> Value.bool false = Value.bool false /\ x.1 = x.1 /\ I (wrZ (q249 y), ()) () /\ μ (wrZ (q249 y), ()) () < μ y z) /\ ((bif decide (y.1 < (lnZ x.1)) then decide (List.getD x.1 (q411 y)
  q40 ≠ (64 : Int)) else false) = false -> ∃ (J : Bool × Unit -> Unit -> Prop), ((decide (y.1 = (lnZ x.1)) = false -> True) /\ (decide (y.1 = (lnZ x.1)) = false -> (decide (y.1 = (lnZ x.1))
  == false) = true /\ True) /\ (decide (y.1 = (lnZ x.1)) = false -> (decide (y.1 = (lnZ x.1)) == false) = true) /\ ((q362 y x) = false -> True) /\ ((q362 y x) = false -> ((q362 y x) == false)
  = true /\ True) /\ ((q362 y x) = false -> ((q362 y x) == false) = true) /\ ((q359 y x) = false -> True) /\ ((q359 y x) = false -> (q358 y x) = true /\ (q67 x) /\ True) /\ ((q359 y x) =
  false -> (q358 y x) = true /\ True) /\ ((q359 y x) = false -> (q358 y x) = true) /\ (q351 y x) /\ (q351 y x) /\ (q346 y x) /\ ((q353 y x) = false -> (q352 y x) = true /\ (q352 y x) = true
  /\ (q40 <= wrZ (y.1 - q458) /\ wrZ (y.1 - q458) < (lnZ x.1)) /\ True) /\ (q346 y x) /\ ((q353 y x) = false -> (q352 y x) = true) /\ ((q348 y x) = true -> false = emailD x.1) /\ ((q348 y x)
  = false -> Value.bool false = Value.bool false /\ y.1 = y.1 /\ x.1 = x.1 /\ J (false, ()) ())) /\ ∀ (u : q4) (z : Unit), (q49 u) -> True -> J u z -> ∃ (I : q8), ∃ (μ : q9), (Value.bool
  false = Value.bool false /\ y.1 = y.1 /\ x.1 = x.1 /\ I (q40, u.1, ()) ()) /\ ∀ (y_1 : q10) (z : Unit), (q87 y_1) -> True -> I y_1 z -> (decide (y_1.1 < y.1) = true -> (q240 y_1 x) /\ ∃ (J
  : Bool × Unit -> Unit -> Prop), (True /\ (∀ (y_2 : q4), (q49 y_2) -> y_2.1 = letterD (q321 x y_1) -> ((!y_2.1) = true -> True) /\ ((!y_2.1) = true -> ((!y_2.1) == true) = true /\ True /\ (∀
  (y_3 : q4), (q49 y_3) -> y_3.1 = digitD (q321 x y_1) -> ((!y_3.1) = true -> True) /\ ((!y_3.1) = true -> ((!y_3.1) == true) = true /\ True) /\ ((!y_3.1) = true -> ((!y_3.1) == true) = true)
  /\ ((q360 y_3 x y_1) = true -> True) /\ ((q360 y_3 x y_1) = true -> ((q360 y_3 x y_1) == true) = true /\ True) /\ ((q360 y_3 x y_1) = true -> ((q360 y_3 x y_1) == true) = true) /\ ((q355
  y_3 x y_1) = true -> True) /\ ((q355 y_3 x y_1) = true -> (q354 y_3 x y_1) = true /\ True) /\ ((q355 y_3 x y_1) = true -> (q354 y_3 x y_1) = true) /\ ((q350 y_3 x y_1) = true -> True) /\
  ((q350 y_3 x y_1) = true -> (q349 y_3 x y_1) = true /\ True) /\ ((q350 y_3 x y_1) = true -> (q349 y_3 x y_1) = true) /\ ((q347 y_3 x y_1) = true -> false = emailD x.1) /\ ((q347 y_3 x y_1)
  = false -> List.getD x.1 (q418 y_1) q40 = List.getD x.1 (q418 y_1) q40 /\ Value.bool true = Value.bool true /\ y_1.1 = y_1.1 /\ Value.bool false = Value.bool false /\ y.1 = y.1 /\ x.1 = x.1
  /\ J (y_1.2.1, ()) ())) /\ True) /\ ((!y_2.1) = !true -> List.getD x.1 (q418 y_1) q40 = List.getD x.1 (q418 y_1) q40 /\ Value.bool true = Value.bool true /\ y_1.1 = y_1.1 /\ Value.bool
  false = Value.bool false /\ y.1 = y.1 /\ x.1 = x.1 /\ J (y_1.2.1, ()) ())) /\ True) /\ ∀ (u : q4) (z_1 : Unit), (q49 u) -> True -> J u z_1 -> (decide (q363 x y_1) = true -> True) /\ (decide
  (q363 x y_1) = true -> True) /\ (q357 x y_1) /\ (decide (q363 x y_1) = true -> (q361 x y_1) = true /\ (q361 x y_1) = true /\ (q40 <= wrZ (q89 y_1) /\ wrZ (q89 y_1) < (lnZ x.1)) /\ True) /\
  (q357 x y_1) /\ (decide (q363 x y_1) = true -> (q361 x y_1) = true) /\ ((q356 x y_1) = true -> false = emailD x.1) /\ ((q356 x y_1) = false -> Value.bool false = Value.bool false /\ y.1 =
  y.1 /\ x.1 = x.1 /\ I (wrZ (q89 y_1), u.1, ()) () /\ μ (wrZ (q89 y_1), u.1, ()) () < μ y_1 z)) /\ (decide (y_1.1 < y.1) = false -> (q40 <= wrZ (q249 y) /\ wrZ (q249 y) <= (lnZ x.1)) /\
  List.length (List.drop (Int.toNat (wrZ (y.1 + q528))) x.1) <= q88 /\ (∀ (y_2 : q4), (q49 y_2) -> y_2.1 = dnsD (List.drop (Int.toNat (wrZ (y.1 + q528))) x.1) -> y_2.1 = emailD x.1) /\ True))
theorem e19 : t19 = Con.vc c_r13_Email GL (mkEnv ty [(51, conSem c_r13_letter), (52, conSem c_r13_digit), (20, conSem c_r13_DNS)] [] [] [0, 2, 3, 4, 5, 15, 41, 44, 73, 82]) {joins := [6,12]} Tryz.f19.ntmps Tryz.f19.results.toList (bodyOf Tryz.f19) := by kernel_rfl
theorem k19 : t19 := by
  unfold t19
  delta q6 q71 q88 q13 q40 q1 q36 lnZ q411 wrZ q249 q362 q359 q358 q67 q351 q346 q353 q352 q458 q348 q4 q49 q8 q9 q10 q87 q240 q321 q360 q355 q354 q350 q349 q347 q418 q363 q357 q361 q89 q356 q528 wsZ wiZ q421 q510 q509 wbZ q511 q512 q544 q513 q540 q529 q574
  rintro ⟨l, _⟩ hx hp
  have hp : l.length ≤ 1000000000 := hp
  try dsimp +instances only [dft_int, dft_sl, dft_str]
  simp only [true_and, and_true, eq_self_iff_true, implies_true, reduceCtorEq, false_implies, true_implies, decide_eq_true_eq, decide_eq_false_iff_not, beq_self_eq_true, Bool.not_eq_true', ne_eq, Decidable.not_not, List.nil_append, List.length_singleton, List.length_cons, List.length_nil, Nat.zero_add, Nat.add_zero, Nat.mul_one, and_self, beq_iff_eq, Bool.not_true, Bool.not_false, Bool.not_eq_false', Bool.cond_false_right, Bool.and_eq_true, imp_self, Bool.not_eq_true, Bool.cond_true_left, Bool.or_eq_true]
  refine ⟨fun y _ => 0 ≤ y.1 ∧ y.1 ≤ l.length ∧ ∀ j, j < y.1.toNat → l.getD j 0 ≠ 64, fun y _ => ((l.length : Int) - y.1).toNat, ⟨Int.le_refl 0, by simp only; omega, fun j hj => by simp at hj⟩, ?_⟩
  rintro ⟨n, _⟩ _ _ ⟨n0, n1, n2⟩
  simp only at n0 n1 n2 ⊢
  have hw1 : n < l.length → IntKind.wrap .i64 (n + 1) = n + 1 := fun _ => wrapK _ (by omega) (by omega)
  have hw2 : IntKind.wrap .i64 (n - 1) = n - 1 := wrapK _ (by omega) (by omega)
  rw [hw2]
  refine ⟨fun h => ⟨h, h, n0, h⟩, fun h => ?_, fun h => ?_⟩
  . rw [hw1 h.1]
    refine ⟨⟨by omega, by omega, fun j hj => ?_⟩, by omega⟩
    by_cases hji : j < n.toNat
    . exact n2 j hji
    . rw [show j = n.toNat by omega]; exact h.2
  have none : n = l.length → emailD l = false := fun e => email_none (fun hc => by
    obtain ⟨j, hj, hx⟩ := List.getElem_of_mem hc
    refine n2 j (by omega) ?_
    rw [List.getD_eq_getElem?_getD, List.getElem?_eq_getElem hj]
    exact hx)
  have some : n ≠ l.length → emailD l = (localD (l.take n.toNat) && dnsD (l.drop (n.toNat + 1))) := fun e => by
    have h64 : l.getD n.toNat 0 = 64 := by
      simp only [Bool.and_eq_false_iff, decide_eq_false_iff_not] at h
      rcases h with h | h
      . omega
      . exact Classical.not_not.1 h
    exact email_at (by omega) h64 n2
  have htl : n ≠ l.length → (l.take n.toNat).length = n.toNat := fun e => by rw [List.length_take]; omega
  have htg : ∀ j, j < n.toNat → (l.take n.toNat).getD j 0 = l.getD j 0 := fun j hj => getD_take l _ j hj
  have hnil : n ≠ l.length → (l.take n.toNat = [] ↔ n = 0) := fun e => ⟨fun h => by have := congrArg List.length h; rw [htl e] at this; simp at this; omega, fun h => by rw [h]; rfl⟩
  simp only [Bool.or_eq_false_iff, decide_eq_false_iff_not]
  refine ⟨fun _ _ => n ≠ l.length ∧ 1 ≤ n ∧ n ≤ 64 ∧ l.getD 0 0 ≠ 46 ∧ l.getD (n.toNat - 1) 0 ≠ 46, ⟨fun h => ⟨h, by decide, by omega⟩, fun h => ⟨h, h, by omega, by omega⟩, fun h => ?_, fun h => ⟨h.1.1.1.1, by omega, by omega, h.1.2, by rw [show n.toNat - 1 = (n - 1).toNat by omega]; exact h.2⟩⟩, ?_⟩
  . refine Eq.symm ?_
    by_cases e : n = l.length
    . exact none e
    . have hl0 : localD (l.take n.toNat) = false := by
        have key : ¬ (l.take n.toNat ≠ [] ∧ (l.take n.toNat).length ≤ 64 ∧ (l.take n.toNat).getD 0 0 ≠ 46 ∧ (l.take n.toNat).getD ((l.take n.toNat).length - 1) 0 ≠ 46) := by
          rintro ⟨k1, k2, k3, k4⟩
          rw [Ne, hnil e] at k1
          rw [htl e] at k2 k4
          rw [htg 0 (by omega)] at k3
          rw [htg _ (by omega), show n.toNat - 1 = (n - 1).toNat by omega] at k4
          omega
        rw [localD, decide_eq_false key]; rfl
      rw [some e, hl0]; rfl
  rintro ⟨b, _⟩ _ _ ⟨j1, j2, j3, j4, j5⟩
  have hE := some j1
  have hloc : localD (l.take n.toNat) = (!dotsD (l.take n.toNat) && (l.take n.toNat).all mcharD) := by
    rw [localD, decide_eq_true ⟨by rw [Ne, hnil j1]; omega, by rw [htl j1]; omega, by rw [htg 0 (by omega)]; exact j4, by rw [htl j1, htg _ (by omega)]; exact j5⟩]; rfl
  have hbad : ∀ i : Int, 0 ≤ i → i < n → mcharD (l.getD i.toNat 0) = false → false = emailD l := fun i h0 h1 hm => by
    rw [hE, hloc, all_not _ _ i.toNat (by rw [htl j1]; omega) (by rw [htg _ (by omega)]; exact hm)]
    simp
  have h64 : l.getD n.toNat 0 = 64 := by
    simp only [Bool.and_eq_false_iff, decide_eq_false_iff_not] at h
    rcases h with h | h
    . omega
    . exact Classical.not_not.1 h
  simp only
  refine ⟨fun y _ => 0 ≤ y.1 ∧ y.1 ≤ n ∧ ∀ j, j < y.1.toNat → mcharD (l.getD j 0) = true ∧ ¬ (l.getD j 0 = 46 ∧ l.getD (j + 1) 0 = 46), fun y _ => (n - y.1).toNat, ⟨Int.le_refl 0, by simp only; omega, fun j hj => by simp at hj⟩, ?_⟩
  rintro ⟨i, c, _⟩ _ _ ⟨i0, i1, i2⟩
  simp only at i0 i1 i2 ⊢
  have hw3 : IntKind.wrap .i64 (i + 1) = i + 1 := wrapK _ (by omega) (by omega)
  rw [hw3, hw1 (by omega)]
  refine ⟨fun hlt => ⟨⟨i0, by omega⟩, fun _ _ => mcharD (l.getD i.toNat 0) = true, ?_, ?_⟩, fun hge => ⟨⟨by omega, by omega⟩, by simp; omega, ?_⟩⟩
  . rintro ⟨d, _⟩ _ ed
    simp only at ed ⊢
    refine ⟨fun h => ⟨h, ?_⟩, fun h => by rw [mcharD, ← ed, h]; rfl⟩
    rintro ⟨e, _⟩ _ ee
    simp only at ee ⊢
    refine ⟨fun h2 => hbad i i0 hlt ?_, fun h2 => ?_⟩
    . rw [mcharD, ← ed, h, ← ee, h2.1.1.1.1, decide_eq_false (by omega)]; rfl
    . rw [mcharD, ← ed, h, ← ee]
      cases e with
      | true => rfl
      | false =>
        simp only [Bool.not_false, Bool.true_and, Bool.and_eq_false_iff, decide_eq_false_iff_not] at h2
        rw [decide_eq_true (by omega)]; rfl
  . rintro ⟨d, _⟩ _ _ hJ
    have hJ : mcharD (l.getD i.toNat 0) = true := hJ
    try simp only
    have e1 : (i + 1).toNat = i.toNat + 1 := by omega
    rw [e1]
    refine ⟨fun h => ⟨h, h, by omega, by omega⟩, fun h => ?_, fun h => ⟨⟨by omega, by omega, fun j hj => ?_⟩, by omega⟩⟩
    . have hin : i.toNat + 1 < n.toNat := by
        by_cases e : i.toNat + 1 = n.toNat
        . rw [e, h64] at h; omega
        . omega
      have hd : dotsD (l.take n.toNat) = true := (dots_iff _).2 ⟨i.toNat, by rw [htl j1]; omega, by rw [htg _ (by omega)]; exact h.1, by rw [htg _ hin]; exact h.2⟩
      rw [hE, hloc, hd]; rfl
    . by_cases hji : j < i.toNat
      . exact i2 j hji
      . rw [show j = i.toNat by omega]
        simp only [Bool.and_eq_false_iff, decide_eq_false_iff_not] at h
        exact ⟨hJ, by omega⟩
  . rintro ⟨d, _⟩ _ ed
    simp only at ed ⊢
    have hin : i = n := by omega
    subst hin
    have ha : (l.take i.toNat).all mcharD = true := all_get _ _ (fun j hj => by
      rw [htl j1] at hj
      rw [htg _ hj]
      exact (i2 j hj).1)
    have hd : dotsD (l.take i.toNat) = false := by
      cases hd : dotsD (l.take i.toNat) with
      | false => rfl
      | true =>
        obtain ⟨j, q1, q2, q3⟩ := (dots_iff _).1 hd
        rw [htl j1] at q1
        rw [htg _ (by omega)] at q2
        rw [htg _ q1] at q3
        exact absurd ⟨q2, q3⟩ (i2 j (by omega)).2
    rw [hE, hloc, ha, hd, ed, show (i + 1).toNat = i.toNat + 1 by omega]; rfl
theorem h19 : c_r13_Email.ok Tryz.prog GL 19 := con_ok (H := {joins := [6,12]}) (mkEnv_ok (gl := GL) (l := [(51, conSem c_r13_letter), (52, conSem c_r13_digit), (20, conSem c_r13_DNS)]) (q := []) (d := []) _ tyOk (by kernel_rfl) ⟨h51.call, h52.call, h20.call, trivial⟩ trivial trivial) (by kernel_rfl) (by kernel_rfl) (Eq.mp e19 k19)
def t26 : Prop :=
  ∀ (x : q6), (q71 x) -> True -> (decide (q460 x) = false -> True) /\ (q364 x) /\ (q364 x) /\ (decide (q460 x) = false -> (decide (q460 x) == false) = true) /\ (bif decide (q460 x) then true
  else decide ((lnZ x.1) = q423)) = ipD x.1
theorem e26 : t26 = Con.vc c_host_IP GL (mkEnv ty [] [] [] [0, 2]) {} Tryz.f26.ntmps Tryz.f26.results.toList (bodyOf Tryz.f26) := by kernel_rfl
theorem k26 : t26 := by
  unfold t26
  delta q6 q71 q460 q364 lnZ q423 wsZ
  rintro ⟨l, _⟩ hx hp
  try dsimp +instances only [dft_int, dft_sl, dft_str]
  simp only [true_and, and_true, eq_self_iff_true, implies_true, reduceCtorEq, false_implies, true_implies, decide_eq_true_eq, decide_eq_false_iff_not, beq_self_eq_true, Bool.not_eq_true', ne_eq, Decidable.not_not, List.nil_append, List.length_singleton, List.length_cons, List.length_nil, Nat.zero_add, Nat.add_zero, Nat.mul_one, and_self, beq_iff_eq, Bool.not_true, Bool.not_false, Bool.not_eq_false', Bool.cond_false_right, Bool.and_eq_true, imp_self, Bool.not_eq_true, Bool.cond_true_left, Bool.or_eq_true]
  rw [Bool.eq_iff_iff, ipD]
  simp only [Bool.or_eq_true, decide_eq_true_eq]
  omega
theorem h26 : c_host_IP.ok Tryz.prog GL 26 := con_ok (H := {}) (mkEnv_ok (gl := GL) (l := []) (q := []) (d := []) _ tyOk (by kernel_rfl) trivial trivial trivial) (by kernel_rfl) (by kernel_rfl) (Eq.mp e26 k26)
def t22 : Prop :=
  ∀ (x : q6), (q71 x) -> True -> (decide (q460 x) = false -> True) /\ (q364 x) /\ (q364 x) /\ (decide (q460 x) = false -> (decide (q460 x) == false) = true) /\ (bif decide (q460 x) then true
  else decide ((lnZ x.1) = q423)) = ipD x.1
theorem e22 : t22 = Con.vc c_r13_IP GL (mkEnv ty [] [] [] [0, 2]) {} Tryz.f22.ntmps Tryz.f22.results.toList (bodyOf Tryz.f22) := by kernel_rfl
theorem k22 : t22 := by
  unfold t22
  delta q6 q71 q460 q364 lnZ q423 wsZ
  rintro ⟨l, _⟩ hx hp
  try dsimp +instances only [dft_int, dft_sl, dft_str]
  simp only [true_and, and_true, eq_self_iff_true, implies_true, reduceCtorEq, false_implies, true_implies, decide_eq_true_eq, decide_eq_false_iff_not, beq_self_eq_true, Bool.not_eq_true', ne_eq, Decidable.not_not, List.nil_append, List.length_singleton, List.length_cons, List.length_nil, Nat.zero_add, Nat.add_zero, Nat.mul_one, and_self, beq_iff_eq, Bool.not_true, Bool.not_false, Bool.not_eq_false', Bool.cond_false_right, Bool.and_eq_true, imp_self, Bool.not_eq_true, Bool.cond_true_left, Bool.or_eq_true]
  rw [Bool.eq_iff_iff, ipD]
  simp only [Bool.or_eq_true, decide_eq_true_eq]
  omega
theorem h22 : c_r13_IP.ok Tryz.prog GL 22 := con_ok (H := {}) (mkEnv_ok (gl := GL) (l := []) (q := []) (d := []) _ tyOk (by kernel_rfl) trivial trivial trivial) (by kernel_rfl) (by kernel_rfl) (Eq.mp e22 k22)
end Go.Proofs.YtlpbhgcndebkcaaGreatDoor
end
