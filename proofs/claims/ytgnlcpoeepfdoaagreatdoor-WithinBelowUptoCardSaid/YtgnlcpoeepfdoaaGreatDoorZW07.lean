/- Texts of a verified walk, led together: HostA, HostW, HostmA, HostmW. -/
import Derived.Test.YtgnlcpoeepfdoaaGreatDoorZW06
import Derived.Test.YtgnlcpoeepfdoaaGreatDoorZV12
set_option linter.unusedVariables false
set_option linter.unusedSimpArgs false
section
namespace Go.Proofs.YtgnlcpoeepfdoaaGreatDoor
open Go Go.Vc Go.Pl Go.Proofs
def c_host_letter : Con := { args := [.dat U8], res := [.dat .bool], pre := fun _ => True, post := fun x y => y.1 = letterD x.1 }
def c_r13_letter : Con := { args := [.dat U8], res := [.dat .bool], pre := fun _ => True, post := fun x y => y.1 = letterD x.1 }
def c_host_digit : Con := { args := [.dat U8], res := [.dat .bool], pre := fun _ => True, post := fun x y => y.1 = digitD x.1 }
def c_r13_digit : Con := { args := [.dat U8], res := [.dat .bool], pre := fun _ => True, post := fun x y => y.1 = digitD x.1 }
def c_host_label_1 : Con := { args := [.dat U8], res := [.dat .bool], pre := fun _ => True, post := fun x y => y.1 = lcharD x.1 }
def c_host_local_1 : Con := { args := [.dat U8], res := [.dat .bool], pre := fun _ => True, post := fun x y => y.1 = mcharD x.1 }
def c_host_label : Con := { args := [.dat .str], res := [.dat .bool], pre := fun x => x.1.length ≤ 1000000000, post := fun x y => y.1 = labelD x.1 }
def c_r13_isLabel : Con := { args := [.dat .str], res := [.dat .bool], pre := fun x => x.1.length ≤ 1000000000, post := fun x y => y.1 = labelD x.1 }
def c_host_local : Con := { args := [.dat .str], res := [.dat .bool], pre := fun x => x.1.length ≤ 1000000000, post := fun x y => y.1 = localD x.1 }
def c_host_DNS : Con := { args := [.dat .str], res := [.dat .bool], pre := fun x => x.1.length ≤ 1000000000, post := fun x y => y.1 = dnsD x.1 }
def c_r13_DNS : Con := { args := [.dat .str], res := [.dat .bool], pre := fun x => x.1.length ≤ 1000000000, post := fun x y => y.1 = dnsD x.1 }
def c_host_Wild : Con := { args := [.dat .str], res := [.dat .bool], pre := fun x => x.1.length ≤ 1000000000, post := fun x y => y.1 = wildD x.1 }
def c_host_Email : Con := { args := [.dat .str], res := [.dat .bool], pre := fun x => x.1.length ≤ 1000000000, post := fun x y => y.1 = emailD x.1 }
def c_host_IP : Con := { args := [.dat .str], res := [.dat .bool], pre := fun _ => True, post := fun x y => y.1 = ipD x.1 }
def c_r13_Labels : Con := { args := [.dat .str], res := [.own 9 .str], pre := fun x => x.1.length ≤ 1000000000, post := fun x y => y.1 = labelsD x.1 }
end Go.Proofs.YtgnlcpoeepfdoaaGreatDoor
end
section
namespace Go.Proofs.YtgnlcpoeepfdoaaGreatDoor
open Go Go.Vc Go.Pl Go.Proofs
set_option linter.unusedVariables false
set_option linter.unusedSimpArgs false
abbrev q15 := ((Bool × Unit) × (List Int × Unit) × (List Int × Unit) × Unit)
abbrev q16 := (List (List Int) × Unit)
abbrev q300 (p0 : q1) := (bif decide ((97 : Int) <= p0.1) then decide (p0.1 <= (122 : Int)) else false)
abbrev q272 (p0 : q1) := ((q300 p0) == false && (q300 p0) == false)
abbrev q271 (p0 : q1) := ((q300 p0) == false && (q300 p0) == false && decide ((65 : Int) <= p0.1) == true)
abbrev q146 (p0 : q1) := ((q230 p0) = false -> (q272 p0) = true /\ (decide (q229 <= p0.1) = true -> (q271 p0) = true) /\ True)
abbrev q147 (p0 : q1) := ((q272 p0) = true -> decide (q229 <= p0.1) = true -> (q271 p0) = true /\ True)
abbrev q148 (p0 : q1) := ((q272 p0) = true -> decide (q229 <= p0.1) = true -> True)
abbrev q149 (p0 : q1) := ((q230 p0) = false -> ((q230 p0) == false) = true /\ True)
abbrev q150 (p0 : q1) := ((q230 p0) = false -> ((q230 p0) == false) = true)
abbrev q151 (p0 : q1) := (bif bif decide ((97 : Int) <= p0.1) then decide (p0.1 <= (122 : Int)) else false then true else bif decide (q229 <= p0.1) then decide (p0.1 <= (90 : Int)) else
  false)
abbrev q152 (p0 : q1) := ((q230 p0) = false -> True)
abbrev q273 (p0 : q6) := (bif bif decide (p0.1 = bs { data := #[] }) then true else decide ((63 : Int) < (lnZ p0.1)) then true else decide (List.getD p0.1 (0 : Nat) q295 = (45 : Int)))
abbrev q153 (p0 : q6) := ((q273 p0) = false -> ((q273 p0) == false) = true /\ True)
abbrev q154 (p0 : q6) := (bif bif bif decide (q238 p0) then true else decide ((63 : Int) < (lnZ p0.1)) then true else decide (List.getD p0.1 (0 : Nat) q295 = (45 : Int)) then true else
  decide (List.getD p0.1 (Int.toNat (wrZ ((lnZ p0.1) - q253))) q228 = (45 : Int)))
abbrev q155 (p0 : q4) (p1 : q6) (p2 : q8) (p3 : q10) (p4 : q9) (p5 : Unit) := ((!p0.1) = false -> (lnZ p1.1) = (lnZ p1.1) /\ p1.1 = p1.1 /\ p1.1 = p1.1 /\ Value.bool false = Value.bool
  false /\ Value.bool false = Value.bool false /\ p1.1 = p1.1 /\ p2 (wrZ (p3.1 + q253), p3.2.1, ()) () /\ p4 (wrZ (p3.1 + q253), p3.2.1, ()) () < p4 p3 p5)
abbrev q156 (p0 : q6) := ((q273 p0) = false -> True)
abbrev q157 (p0 : q6) := ((q273 p0) == false)
abbrev q158 (p0 : q6) (p1 : q8) := ((lnZ p0.1) = (lnZ p0.1) /\ p0.1 = p0.1 /\ p0.1 = p0.1 /\ Value.bool false = Value.bool false /\ Value.bool false = Value.bool false /\ p0.1 = p0.1 /\ p1
  (q228, false, ()) ())
abbrev q159 (p0 : q6) := (bif bif decide (q238 p0) then true else decide ((63 : Int) < (lnZ p0.1)) then true else decide (List.getD p0.1 (0 : Nat) q295 = (45 : Int)))
abbrev q160 (p0 : q6) := ((bif decide (q238 p0) then true else decide ((63 : Int) < (lnZ p0.1))) == false)
abbrev q161 (p0 : q6) := (bif decide (q238 p0) then true else decide ((63 : Int) < (lnZ p0.1)))
abbrev q274 (p0 : q6) (p1 : q10) := (bif decide (List.getD p0.1 (Int.toNat p1.1) q295 ≠ (45 : Int)) then true else decide (p1.1 = q295))
abbrev q162 (p0 : q4) (p1 : q6) (p2 : q10) := (((!p0.1) == true && (!p0.1) == true) = true -> (q274 p1 p2) = false -> ((!p0.1) == true && (!p0.1) == true && (q274 p1 p2) == false) = true /\
  True)
abbrev q163 (p0 : q4) (p1 : q6) (p2 : q10) := (bif !p0.1 then bif bif decide (List.getD p1.1 (Int.toNat p2.1) q295 ≠ (45 : Int)) then true else decide (p2.1 = q228) then true else decide
  (p2.1 = wrZ ((lnZ p1.1) - q253)) else false)
abbrev q164 (p0 : q4) (p1 : q6) (p2 : q10) := (((!p0.1) == true && (!p0.1) == true) = true -> (q274 p1 p2) = false -> True)
abbrev q165 (p0 : q4) (p1 : q6) (p2 : q10) := ((!p0.1) == true && (!p0.1) == true && (q274 p1 p2) == false)
abbrev q166 (p0 : q6) (p1 : q10) := (bif decide (List.getD p0.1 (Int.toNat p1.1) q295 ≠ (45 : Int)) then true else decide (p1.1 = q228))
abbrev q167 (p0 : q6) (p1 : q10) := (List.getD p0.1 (q232 p1) q228 ≠ (45 : Int))
abbrev q168 (p0 : q4) := ((!p0.1) == true && (!p0.1) == true)
abbrev q275 (p0 : q6) := (bif bif decide (p0.1 = bs { data := #[] }) then true else decide ((64 : Int) < (lnZ p0.1)) then true else decide (List.getD p0.1 (0 : Nat) q295 = (46 : Int)))
abbrev q169 (p0 : q6) := ((q275 p0) = false -> ((q275 p0) == false) = true /\ True)
abbrev q170 (p0 : q6) := (bif bif bif decide (q238 p0) then true else decide ((64 : Int) < (lnZ p0.1)) then true else decide (List.getD p0.1 (0 : Nat) q295 = (46 : Int)) then true else
  decide (List.getD p0.1 (Int.toNat (wrZ ((lnZ p0.1) - q253))) q228 = (46 : Int)))
abbrev q171 (p0 : q6) := ((q275 p0) = false -> True)
abbrev q172 (p0 : q6) := ((q275 p0) == false)
abbrev q173 (p0 : q6) := (bif bif decide (q238 p0) then true else decide ((64 : Int) < (lnZ p0.1)) then true else decide (List.getD p0.1 (0 : Nat) q295 = (46 : Int)))
abbrev q174 (p0 : q6) := ((bif decide (q238 p0) then true else decide ((64 : Int) < (lnZ p0.1))) == false)
abbrev q175 (p0 : q6) := (bif decide (q238 p0) then true else decide ((64 : Int) < (lnZ p0.1)))
abbrev q176 (p0 : Bool × List Int × List Int × Unit) := (cutD (List.getD (bs { data := #[q231] }) q245 q228) p0.2.1)
abbrev q177 (p0 : q6) := (cutD (List.getD (bs { data := #[q231] }) q245 q228) p0.1)
abbrev q178 := (bs { data := #[q231] })
abbrev q179 (p0 : q16) := (lnZ (List.getD p0.1 (Int.toNat (wrZ ((lnZ p0.1) - q253))) (Kd.dft Kd.str)))
abbrev q180 (p0 : q16) := (Int.toNat (wrZ ((lnZ p0.1) - q253)))
abbrev q181 (p0 : q5) (p1 : q6) := (bif p0.2.1 then decide ((lnZ p1.1) <= (253 : Int)) else false)
abbrev q182 := (bs { data := #[(42 : UInt8), q231] })
abbrev q276 := (List.getD (bs { data := #[(64 : UInt8)] }) (0 : Nat) q295)
abbrev q183 (p0 : q6) := (cutD q276 p0.1)
def t78 : Prop :=
  ∀ (x : q1), (q67 x) -> True -> (decide ((97 : Int) <= x.1) = true -> True) /\ (q68 x) /\ (q70 x) /\ (q152 x) /\ (q149 x) /\ (q152 x) /\ (q148 x) /\ (q147 x) /\ (q146 x) /\ (q150 x) /\ (q151
  x) = letterD x.1
theorem e78 : t78 = Con.vc c_host_letter GL (mkEnv ty [] [] [] [0, 2]) {} Tryz.f78.ntmps Tryz.f78.results.toList (bodyOf Tryz.f78) := by kernel_rfl
theorem k78 : t78 := by
  unfold t78
  delta q1 q67 q68 q70 q152 q149 q148 q147 q146 q150 q151 q286 q230 q272 q229 q271 q300
  rintro ⟨l, _⟩ hx hp
  try dsimp +instances only [dft_int, dft_sl, dft_str]
  simp only [true_and, and_true, eq_self_iff_true, implies_true, reduceCtorEq, false_implies, true_implies, decide_eq_true_eq, decide_eq_false_iff_not, beq_self_eq_true, Bool.not_eq_true', ne_eq, Decidable.not_not, List.nil_append, List.length_singleton, List.length_cons, List.length_nil, Nat.zero_add, Nat.add_zero, Nat.mul_one, and_self, beq_iff_eq, Bool.not_true, Bool.not_false, Bool.not_eq_false', Bool.cond_false_right, Bool.and_eq_true, imp_self, Bool.not_eq_true, Bool.cond_true_left, Bool.or_eq_true]
  refine ⟨fun h h2 => ⟨h, h2⟩, fun h => ⟨h, fun h2 => ⟨h, h2⟩⟩, ?_⟩
  rw [Bool.eq_iff_iff, letterD]
  simp only [Bool.or_eq_true, Bool.and_eq_true, decide_eq_true_eq]
theorem h78 : c_host_letter.ok Tryz.prog GL 78 := con_ok (H := {}) (mkEnv_ok (gl := GL) (l := []) (q := []) (d := []) _ tyOk (by kernel_rfl) trivial trivial trivial) (by kernel_rfl) (by kernel_rfl) (Eq.mp e78 k78)
def t58 : Prop :=
  ∀ (x : q1), (q67 x) -> True -> (decide ((97 : Int) <= x.1) = true -> True) /\ (q68 x) /\ (q70 x) /\ (q152 x) /\ (q149 x) /\ (q152 x) /\ (q148 x) /\ (q147 x) /\ (q146 x) /\ (q150 x) /\ (q151
  x) = letterD x.1
theorem e58 : t58 = Con.vc c_r13_letter GL (mkEnv ty [] [] [] [0, 2]) {} Tryz.f58.ntmps Tryz.f58.results.toList (bodyOf Tryz.f58) := by kernel_rfl
theorem k58 : t58 := by
  unfold t58
  delta q1 q67 q68 q70 q152 q149 q148 q147 q146 q150 q151 q286 q230 q272 q229 q271 q300
  rintro ⟨l, _⟩ hx hp
  try dsimp +instances only [dft_int, dft_sl, dft_str]
  simp only [true_and, and_true, eq_self_iff_true, implies_true, reduceCtorEq, false_implies, true_implies, decide_eq_true_eq, decide_eq_false_iff_not, beq_self_eq_true, Bool.not_eq_true', ne_eq, Decidable.not_not, List.nil_append, List.length_singleton, List.length_cons, List.length_nil, Nat.zero_add, Nat.add_zero, Nat.mul_one, and_self, beq_iff_eq, Bool.not_true, Bool.not_false, Bool.not_eq_false', Bool.cond_false_right, Bool.and_eq_true, imp_self, Bool.not_eq_true, Bool.cond_true_left, Bool.or_eq_true]
  refine ⟨fun h h2 => ⟨h, h2⟩, fun h => ⟨h, fun h2 => ⟨h, h2⟩⟩, ?_⟩
  rw [Bool.eq_iff_iff, letterD]
  simp only [Bool.or_eq_true, Bool.and_eq_true, decide_eq_true_eq]
theorem h58 : c_r13_letter.ok Tryz.prog GL 58 := con_ok (H := {}) (mkEnv_ok (gl := GL) (l := []) (q := []) (d := []) _ tyOk (by kernel_rfl) trivial trivial trivial) (by kernel_rfl) (by kernel_rfl) (Eq.mp e58 k58)
def t50 : Prop :=
  ∀ (x : q1), (q67 x) -> True -> (decide ((48 : Int) <= x.1) = true -> True) /\ (q69 x) /\ (q71 x) /\ (q72 x) = digitD x.1
theorem e50 : t50 = Con.vc c_host_digit GL (mkEnv ty [] [] [] [0, 2]) {} Tryz.f50.ntmps Tryz.f50.results.toList (bodyOf Tryz.f50) := by kernel_rfl
theorem k50 : t50 := by
  unfold t50
  delta q1 q67 q69 q71 q72 q286
  rintro ⟨l, _⟩ hx hp
  try dsimp +instances only [dft_int, dft_sl, dft_str]
  simp only [true_and, and_true, eq_self_iff_true, implies_true, reduceCtorEq, false_implies, true_implies, decide_eq_true_eq, decide_eq_false_iff_not, beq_self_eq_true, Bool.not_eq_true', ne_eq, Decidable.not_not, List.nil_append, List.length_singleton, List.length_cons, List.length_nil, Nat.zero_add, Nat.add_zero, Nat.mul_one, and_self, beq_iff_eq, Bool.not_true, Bool.not_false, Bool.not_eq_false', Bool.cond_false_right, Bool.and_eq_true, imp_self, Bool.not_eq_true, Bool.cond_true_left, Bool.or_eq_true]
  rw [Bool.eq_iff_iff, digitD]
  simp only [Bool.and_eq_true, decide_eq_true_eq]
theorem h50 : c_host_digit.ok Tryz.prog GL 50 := con_ok (H := {}) (mkEnv_ok (gl := GL) (l := []) (q := []) (d := []) _ tyOk (by kernel_rfl) trivial trivial trivial) (by kernel_rfl) (by kernel_rfl) (Eq.mp e50 k50)
def t55 : Prop :=
  ∀ (x : q1), (q67 x) -> True -> (decide ((48 : Int) <= x.1) = true -> True) /\ (q69 x) /\ (q71 x) /\ (q72 x) = digitD x.1
theorem e55 : t55 = Con.vc c_r13_digit GL (mkEnv ty [] [] [] [0, 2]) {} Tryz.f55.ntmps Tryz.f55.results.toList (bodyOf Tryz.f55) := by kernel_rfl
theorem k55 : t55 := by
  unfold t55
  delta q1 q67 q69 q71 q72 q286
  rintro ⟨l, _⟩ hx hp
  try dsimp +instances only [dft_int, dft_sl, dft_str]
  simp only [true_and, and_true, eq_self_iff_true, implies_true, reduceCtorEq, false_implies, true_implies, decide_eq_true_eq, decide_eq_false_iff_not, beq_self_eq_true, Bool.not_eq_true', ne_eq, Decidable.not_not, List.nil_append, List.length_singleton, List.length_cons, List.length_nil, Nat.zero_add, Nat.add_zero, Nat.mul_one, and_self, beq_iff_eq, Bool.not_true, Bool.not_false, Bool.not_eq_false', Bool.cond_false_right, Bool.and_eq_true, imp_self, Bool.not_eq_true, Bool.cond_true_left, Bool.or_eq_true]
  rw [Bool.eq_iff_iff, digitD]
  simp only [Bool.and_eq_true, decide_eq_true_eq]
theorem h55 : c_r13_digit.ok Tryz.prog GL 55 := con_ok (H := {}) (mkEnv_ok (gl := GL) (l := []) (q := []) (d := []) _ tyOk (by kernel_rfl) trivial trivial trivial) (by kernel_rfl) (by kernel_rfl) (Eq.mp e55 k55)
def t77 : Prop :=
  ∀ (x : q1), (q67 x) -> True -> True /\ (∀ (y : q4), (q34 y) -> y.1 = letterD x.1 -> (y.1 = false -> True) /\ (y.1 = false -> (y.1 == false) = true /\ True /\ (∀ (y : q4), (q34 y) -> y.1 =
  digitD x.1 -> (y.1 = false -> True) /\ (y.1 = false -> (y.1 == false) = true /\ True) /\ (y.1 = false -> (y.1 == false) = true) /\ (bif y.1 then true else decide (x.1 = (45 : Int))) =
  lcharD x.1) /\ True) /\ (y.1 = !false -> true = lcharD x.1)) /\ True
theorem e77 : t77 = Con.vc c_host_label_1 GL (mkEnv ty [(78, conSem c_host_letter), (50, conSem c_host_digit)] [] [] [0, 2]) {} Tryz.f77.ntmps Tryz.f77.results.toList (bodyOf Tryz.f77) := by kernel_rfl
theorem k77 : t77 := by
  unfold t77
  delta q1 q67 q4 q34 q286 wbZ
  rintro ⟨l, _⟩ hx hp
  try dsimp +instances only [dft_int, dft_sl, dft_str]
  simp only [true_and, and_true, eq_self_iff_true, implies_true, reduceCtorEq, false_implies, true_implies, decide_eq_true_eq, decide_eq_false_iff_not, beq_self_eq_true, Bool.not_eq_true', ne_eq, Decidable.not_not, List.nil_append, List.length_singleton, List.length_cons, List.length_nil, Nat.zero_add, Nat.add_zero, Nat.mul_one, and_self, beq_iff_eq, Bool.not_true, Bool.not_false, Bool.not_eq_false', Bool.cond_false_right, Bool.and_eq_true, imp_self, Bool.not_eq_true, Bool.cond_true_left, Bool.or_eq_true]
  rintro ⟨a, _⟩ _ ea
  simp only at ea ⊢
  subst ea
  refine ⟨fun h => ⟨h, ?_⟩, fun h => by rw [lcharD, h]; rfl⟩
  rintro ⟨b, _⟩ _ eb
  simp only at eb ⊢
  rw [lcharD, h, eb]; rfl
theorem h77 : c_host_label_1.ok Tryz.prog GL 77 := con_ok (H := {}) (mkEnv_ok (gl := GL) (l := [(78, conSem c_host_letter), (50, conSem c_host_digit)]) (q := []) (d := []) _ tyOk (by kernel_rfl) ⟨h78.call, h50.call, trivial⟩ trivial trivial) (by kernel_rfl) (by kernel_rfl) (Eq.mp e77 k77)
def t87 : Prop :=
  ∀ (x : q1), (q67 x) -> True -> True /\ (∀ (y : q4), (q34 y) -> y.1 = letterD x.1 -> (y.1 = false -> True) /\ (y.1 = false -> (y.1 == false) = true /\ True /\ (∀ (y : q4), (q34 y) -> y.1 =
  digitD x.1 -> (y.1 = false -> True) /\ (y.1 = false -> (y.1 == false) = true /\ True) /\ (y.1 = false -> True) /\ ((y.1 == false && y.1 == false) = true -> decide (x.1 ≠ q23) = true ->
  True) /\ ((y.1 == false && y.1 == false) = true -> decide (x.1 ≠ q23) = true -> (y.1 == false && y.1 == false && decide (x.1 ≠ q23) == true) = true /\ True /\ (∀ (y_1 : q1), (q20 y_1) ->
  y_1.1 = idxB (bs { data := #[q231, (95 : UInt8), (43 : UInt8), (45 : UInt8)] }) x.1 -> (y.1 = false -> True) /\ (y.1 = false -> (y.1 == false) = true) /\ (bif y.1 then true else decide
  (q228 <= y_1.1)) = mcharD x.1) /\ True) /\ ((y.1 == false && y.1 == false) = true -> decide (x.1 ≠ q23) = !true -> (y.1 = false -> True) /\ (y.1 = false -> (y.1 == false) = true) /\ (bif
  y.1 then true else false) = mcharD x.1) /\ ((y.1 == false && y.1 == false) = false -> (y.1 = false -> False) /\ (y.1 = !false -> true = mcharD x.1))) /\ True) /\ (y.1 = !false -> true =
  mcharD x.1)) /\ True
theorem e87 : t87 = Con.vc c_host_local_1 GL (mkEnv ty [(78, conSem c_host_letter), (50, conSem c_host_digit), (88, conSem c_strings_IndexByte)] [] [] [0, 2]) {} Tryz.f87.ntmps Tryz.f87.results.toList (bodyOf Tryz.f87) := by kernel_rfl
theorem k87 : t87 := by
  unfold t87
  delta q1 q67 q4 q34 q23 q20 q231 q228 q286 wbZ wiZ
  rintro ⟨l, _⟩ hx hp
  try dsimp +instances only [dft_int, dft_sl, dft_str]
  simp only [true_and, and_true, eq_self_iff_true, implies_true, reduceCtorEq, false_implies, true_implies, decide_eq_true_eq, decide_eq_false_iff_not, beq_self_eq_true, Bool.not_eq_true', ne_eq, Decidable.not_not, List.nil_append, List.length_singleton, List.length_cons, List.length_nil, Nat.zero_add, Nat.add_zero, Nat.mul_one, and_self, beq_iff_eq, Bool.not_true, Bool.not_false, Bool.not_eq_false', Bool.cond_false_right, Bool.and_eq_true, imp_self, Bool.not_eq_true, Bool.cond_true_left, Bool.or_eq_true]
  have hb : bs { data := #[46, 95, 43, 45] } = [46, 95, 43, 45] := by decide
  have hi : decide (0 ≤ idxB [46, 95, 43, 45] l) = decide (l = 46 ∨ l = 95 ∨ l = 43 ∨ l = 45) := by
    refine decide_eq_decide.2 ((idxB_mem _ _).trans ?_)
    simp
  rw [hb]
  rintro ⟨a, _⟩ _ ea
  simp only at ea ⊢
  subst ea
  refine ⟨fun h => ⟨h, ?_⟩, fun h => by rw [mcharD, h]; rfl⟩
  rintro ⟨b, _⟩ _ eb
  simp only at eb ⊢
  refine ⟨fun h1 h2 => ⟨⟨h1, h2⟩, ?_⟩, fun h1 h2 => ?_, fun h1 => ⟨fun h2 => ?_, fun h2 => ?_⟩⟩
  . rintro ⟨c, _⟩ _ ec
    simp only at ec ⊢
    rw [mcharD, h, ← eb, h1, ec, hi]; rfl
  . subst h2
    rw [mcharD, h, ← eb, h1]; rfl
  . rw [h2] at h1; cases h1
  . rw [mcharD, h, ← eb, h2]; rfl
theorem h87 : c_host_local_1.ok Tryz.prog GL 87 := con_ok (H := {}) (mkEnv_ok (gl := GL) (l := [(78, conSem c_host_letter), (50, conSem c_host_digit), (88, conSem c_strings_IndexByte)]) (q := []) (d := []) _ tyOk (by kernel_rfl) ⟨h78.call, h50.call, h88.call, trivial⟩ trivial trivial) (by kernel_rfl) (by kernel_rfl) (Eq.mp e87 k87)
noncomputable def i49 : CallSem := vcFn (mkEnv ty [(77, conSem c_host_label_1), (87, conSem c_host_local_1), (50, conSem c_host_digit)] [] [] [0, 1, 4, 5, 7, 8, 9, 16]) {} Tryz.f49.ntmps Tryz.f49.results.toList (bodyOf Tryz.f49)
theorem i49_ok : CallOk Tryz.prog GL 49 i49 := inl_ok {} (mkEnv_ok (gl := GL) (l := [(77, conSem c_host_label_1), (87, conSem c_host_local_1), (50, conSem c_host_digit)]) (q := []) (d := []) _ tyOk (by kernel_rfl) ⟨h77.call, h87.call, h50.call, trivial⟩ trivial trivial) (by kernel_rfl) (by kernel_rfl)
def t48 : Prop :=
  ∀ (x : q6), (q55 x) -> List.length x.1 <= q88 -> (decide (q238 x) = false -> True) /\ (q100 x) /\ (q100 x) /\ (q101 x) /\ ((q161 x) = false -> True) /\ ((q161 x) = false -> (q160 x) = true
  /\ (q51 x) /\ True) /\ ((q161 x) = false -> (q160 x) = true /\ True) /\ ((q161 x) = false -> (q160 x) = true) /\ (q156 x) /\ (q156 x) /\ (q153 x) /\ (q153 x) /\ ((q159 x) = false -> (q157
  x) = true /\ (q157 x) = true /\ (q23 <= wrZ ((lnZ x.1) - q253) /\ wrZ ((lnZ x.1) - q253) < (lnZ x.1)) /\ True) /\ (q153 x) /\ ((q159 x) = false -> (q157 x) = true) /\ ((q154 x) = true ->
  false = labelD x.1) /\ ((q154 x) = false -> ∃ (I : q8), ∃ (μ : q9), (q158 x I) /\ ∀ (y : q10) (z : Unit), (q73 y) -> True -> I y z -> (decide (y.1 < (lnZ x.1)) = true -> (q23 <= y.1 /\ y.1
  < (lnZ x.1)) /\ True /\ (∀ (y_1 : q4), (q34 y_1) -> y_1.1 = lcharD (List.getD x.1 (q232 y) q23) -> ((!y_1.1) = true -> false = labelD x.1) /\ (q155 y_1 x I y μ z)) /\ True) /\ (decide (y.1
  < (lnZ x.1)) = false -> true = labelD x.1))
theorem e48 : t48 = Con.vc c_host_label GL (mkEnv ty [(49, i49)] [] [] [0, 2, 22]) {} Tryz.f48.ntmps Tryz.f48.results.toList (bodyOf Tryz.f48) := by kernel_rfl
theorem k48 : t48 := by
  unfold t48
  delta q6 q55 q88 q238 q100 q101 q161 q160 q51 q156 q153 q159 q157 q23 wrZ lnZ q253 q154 q8 q9 q158 q10 q73 q4 q34 q232 q155 wsZ q228 q273 q295 wiZ wbZ
  rintro ⟨l, _⟩ hx hp
  have hp : l.length ≤ 1000000000 := hp
  try dsimp +instances only [dft_int, dft_sl, dft_str]
  simp only [true_and, and_true, eq_self_iff_true, implies_true, reduceCtorEq, false_implies, true_implies, decide_eq_true_eq, decide_eq_false_iff_not, beq_self_eq_true, Bool.not_eq_true', ne_eq, Decidable.not_not, List.nil_append, List.length_singleton, List.length_cons, List.length_nil, Nat.zero_add, Nat.add_zero, Nat.mul_one, and_self, beq_iff_eq, Bool.not_true, Bool.not_false, Bool.not_eq_false', Bool.cond_false_right, Bool.and_eq_true, imp_self, Bool.not_eq_true, Bool.cond_true_left, Bool.or_eq_true]
  rw [bs_nil]
  have hl0 : l = [] ↔ l.length = 0 := ⟨fun h => by rw [h]; rfl, List.eq_nil_of_length_eq_zero⟩
  have hw : IntKind.wrap .i64 ((l.length : Int) - 1) = l.length - 1 := wrapK _ (by omega) (by omega)
  have ht : ((l.length : Int) - 1).toNat = l.length - 1 := by omega
  rw [hw, ht]
  simp only [hl0, Bool.or_eq_false_iff, decide_eq_false_iff_not]
  refine ⟨fun h => ⟨h, by omega, by omega⟩, fun h => ⟨h, h, by omega, by omega⟩, fun h => ?_, fun h => ?_⟩
  . rw [labelD, decide_eq_false (fun hh => by rw [Ne, hl0] at hh; omega)]; rfl
  . have hl : labelD l = l.all lcharD := by
      rw [labelD, decide_eq_true (by rw [Ne, hl0]; omega)]; rfl
    rw [hl]
    refine ⟨fun y _ => 0 ≤ y.1 ∧ y.1 ≤ l.length ∧ ∀ j, j < y.1.toNat → lcharD (l.getD j 0) = true, fun y _ => ((l.length : Int) - y.1).toNat, ⟨by decide, by omega, fun j hj => by simp at hj⟩, ?_⟩
    rintro ⟨i, b, _⟩ _ _ ⟨i0, i1, i2⟩
    simp only at i0 i1 i2 ⊢
    have hw1 : IntKind.wrap .i64 (i + 1) = i + 1 := wrapK _ (by omega) (by omega)
    rw [hw1]
    refine ⟨fun hlt => ⟨⟨i0, hlt⟩, ?_⟩, fun hge => (all_get _ _ (fun j hj => i2 j (by omega))).symm⟩
    rintro ⟨c, _⟩ _ ec
    simp only at ec ⊢
    refine ⟨fun h => (all_not _ _ i.toNat (by omega) (ec.symm.trans h)).symm, fun h => ⟨⟨by omega, by omega, fun j hj => ?_⟩, by omega⟩⟩
    by_cases hji : j < i.toNat
    . exact i2 j hji
    . rw [show j = i.toNat by omega, ← ec]; exact h
theorem h48 : c_host_label.ok Tryz.prog GL 48 := con_ok (H := {}) (mkEnv_ok (gl := GL) (l := [(49, i49)]) (q := []) (d := []) _ tyOk (by kernel_rfl) ⟨i49_ok, trivial⟩ trivial trivial) (by kernel_rfl) (by kernel_rfl) (Eq.mp e48 k48)
def t54 : Prop :=
  ∀ (x : q6), (q55 x) -> List.length x.1 <= q88 -> (decide (q54 x) = false -> True) /\ (decide (q54 x) = false -> (decide (q54 x) == false) = true /\ True) /\ (decide (q54 x) = false ->
  (decide (q54 x) == false) = true /\ True) /\ (decide (q54 x) = false -> (decide (q54 x) == false) = true) /\ ((bif decide (q54 x) then true else decide ((63 : Int) < (lnZ x.1))) = true ->
  false = labelD x.1) /\ ((bif decide (q54 x) then true else decide ((63 : Int) < (lnZ x.1))) = false -> ∃ (I : q8), ∃ (μ : q9), (Value.bool false = Value.bool false /\ x.1 = x.1 /\ I (q23,
  false, ()) ()) /\ ∀ (y : q10) (z : Unit), (q73 y) -> True -> I y z -> (decide (y.1 < (lnZ x.1)) = true -> (q23 <= y.1 /\ y.1 < (lnZ x.1)) /\ True /\ (∀ (y_1 : q4), (q34 y_1) -> y_1.1 =
  letterD (List.getD x.1 (q232 y) q23) -> ((!y_1.1) = true -> True) /\ ((!y_1.1) = true -> True) /\ ((!y_1.1) = true -> ((!y_1.1) == true) = true /\ ((!y_1.1) == true) = true /\ (q23 <= y.1
  /\ y.1 < (lnZ x.1)) /\ True) /\ ((!y_1.1) = true -> ((!y_1.1) == true) = true /\ True /\ (∀ (y_2 : q4), (q34 y_2) -> y_2.1 = digitD (List.getD x.1 (q232 y) q23) -> ((!y_2.1) = true -> True)
  /\ ((!y_2.1) = true -> True) /\ ((!y_2.1) = true -> ((!y_2.1) == true) = true /\ ((!y_2.1) == true) = true /\ (q23 <= y.1 /\ y.1 < (lnZ x.1)) /\ True) /\ ((!y_2.1) = true -> ((!y_2.1) ==
  true) = true /\ True) /\ ((!y_2.1) = true -> True) /\ ((q168 y_2) = true -> decide (q167 x y) = false -> True) /\ ((q168 y_2) = true -> decide (q167 x y) = false -> ((!y_2.1) == true &&
  (!y_2.1) == true && decide (q167 x y) == false) = true /\ True) /\ ((!y_2.1) = true -> (q168 y_2) = true /\ (decide (q167 x y) = false -> ((!y_2.1) == true && (!y_2.1) == true && decide
  (q167 x y) == false) = true) /\ True) /\ ((!y_2.1) = true -> True) /\ (q164 y_2 x y) /\ (q164 y_2 x y) /\ (q162 y_2 x y) /\ (q162 y_2 x y) /\ ((q168 y_2) = true -> (q166 x y) = false ->
  (q165 y_2 x y) = true /\ (q165 y_2 x y) = true /\ True) /\ ((!y_2.1) = true -> (q168 y_2) = true /\ ((q166 x y) = false -> (q165 y_2 x y) = true) /\ True) /\ ((!y_2.1) = true -> ((!y_2.1)
  == true) = true) /\ ((q163 y_2 x y) = true -> false = labelD x.1) /\ ((q163 y_2 x y) = false -> Value.bool false = Value.bool false /\ x.1 = x.1 /\ I (wrZ (q74 y), y.2.1, ()) () /\ μ (wrZ
  (q74 y), y.2.1, ()) () < μ y z)) /\ True) /\ ((!y_1.1) = !true -> Value.bool false = Value.bool false /\ x.1 = x.1 /\ I (wrZ (q74 y), y.2.1, ()) () /\ μ (wrZ (q74 y), y.2.1, ()) () < μ y
  z)) /\ True) /\ (decide (y.1 < (lnZ x.1)) = false -> true = labelD x.1))
theorem e54 : t54 = Con.vc c_r13_isLabel GL (mkEnv ty [(58, conSem c_r13_letter), (55, conSem c_r13_digit)] [] [] [0, 2, 3, 11, 15, 46]) {} Tryz.f54.ntmps Tryz.f54.results.toList (bodyOf Tryz.f54) := by kernel_rfl
theorem k54 : t54 := by
  unfold t54
  delta q6 q55 q88 q54 lnZ q8 q9 q23 q10 q73 q4 q34 q232 q168 q167 q164 q162 q166 q165 q163 wrZ q74 wsZ q253 wiZ wbZ q228 q274 q295
  rintro ⟨l, _⟩ hx hp
  have hp : l.length ≤ 1000000000 := hp
  try dsimp +instances only [dft_int, dft_sl, dft_str]
  simp only [true_and, and_true, eq_self_iff_true, implies_true, reduceCtorEq, false_implies, true_implies, decide_eq_true_eq, decide_eq_false_iff_not, beq_self_eq_true, Bool.not_eq_true', ne_eq, Decidable.not_not, List.nil_append, List.length_singleton, List.length_cons, List.length_nil, Nat.zero_add, Nat.add_zero, Nat.mul_one, and_self, beq_iff_eq, Bool.not_true, Bool.not_false, Bool.not_eq_false', Bool.cond_false_right, Bool.and_eq_true, imp_self, Bool.not_eq_true, Bool.cond_true_left, Bool.or_eq_true]
  have hl0 : l = [] ↔ l.length = 0 := ⟨fun h => by rw [h]; rfl, List.eq_nil_of_length_eq_zero⟩
  have hw : IntKind.wrap .i64 ((l.length : Int) - 1) = l.length - 1 := wrapK _ (by omega) (by omega)
  rw [hw]
  simp only [Bool.or_eq_false_iff, decide_eq_false_iff_not, Bool.and_eq_false_iff, Bool.not_eq_false']
  refine ⟨fun h => ?_, fun h => ?_⟩
  . rw [labelD, decide_eq_false (by rw [Ne, hl0]; omega)]; rfl
  . have bad0 : l.getD 0 0 = 45 → labelD l = false := fun e => by rw [labelD, decide_eq_false (fun hh => hh.2.2.1 e)]; rfl
    have bad1 : l.getD (l.length - 1) 0 = 45 → labelD l = false := fun e => by rw [labelD, decide_eq_false (fun hh => hh.2.2.2 e)]; rfl
    have badc : ∀ i, i < l.length → lcharD (l.getD i 0) = false → labelD l = false := fun i hi e => by rw [labelD, all_not _ _ i hi e, Bool.and_false]
    have hgood : (∀ i, i < l.length → lcharD (l.getD i 0) = true) → l.getD 0 0 ≠ 45 → l.getD (l.length - 1) 0 ≠ 45 → labelD l = true := fun h1 h2 h3 => by
      rw [labelD, all_get _ _ h1, decide_eq_true ⟨by rw [Ne, hl0]; omega, by omega, h2, h3⟩]; rfl
    refine ⟨fun y _ => 0 ≤ y.1 ∧ y.1 ≤ l.length ∧ ∀ j, j < y.1.toNat → lcharD (l.getD j 0) = true ∧ (l.getD j 0 = 45 → j ≠ 0 ∧ j ≠ l.length - 1), fun y _ => ((l.length : Int) - y.1).toNat, ⟨by decide, by omega, fun j hj => by simp at hj⟩, ?_⟩
    rintro ⟨i, b, _⟩ _ _ ⟨i0, i1, i2⟩
    simp only at i0 i1 i2 ⊢
    have hw1 : IntKind.wrap .i64 (i + 1) = i + 1 := wrapK _ (by omega) (by omega)
    rw [hw1]
    have next : lcharD (l.getD i.toNat 0) = true → (l.getD i.toNat 0 = 45 → i ≠ 0 ∧ i ≠ l.length - 1) → i < l.length → (0 ≤ i + 1 ∧ i + 1 ≤ l.length ∧ ∀ j, j < (i + 1).toNat → lcharD (l.getD j 0) = true ∧ (l.getD j 0 = 45 → j ≠ 0 ∧ j ≠ l.length - 1)) ∧ ((l.length : Int) - (i + 1)).toNat < ((l.length : Int) - i).toNat := fun h1 h2 h3 => by
      refine ⟨⟨by omega, by omega, fun j hj => ?_⟩, by omega⟩
      by_cases hji : j < i.toNat
      . exact i2 j hji
      . rw [show j = i.toNat by omega]
        refine ⟨h1, fun e => ?_⟩
        have := h2 e
        omega
    refine ⟨fun hlt => ⟨⟨i0, hlt⟩, ?_⟩, fun hge => (hgood (fun j hj => (i2 j (by omega)).1) (fun e => ((i2 0 (by omega)).2 e).1 rfl) (fun e => ((i2 (l.length - 1) (by omega)).2 e).2 rfl)).symm⟩
    rintro ⟨c, _⟩ _ ec
    simp only at ec ⊢
    refine ⟨fun h => ⟨h, h, i0, hlt⟩, fun h => ⟨h, ?_⟩, fun h => next (by rw [lcharD, ← ec, h]; rfl) (fun e => by rw [e] at ec; rw [ec] at h; cases h) hlt⟩
    have hl1 := ec.symm.trans h
    rintro ⟨d, _⟩ _ ed
    simp only at ed ⊢
    refine ⟨fun h => ⟨h, h, i0, hlt⟩, fun h1 h2 => ⟨h1, h2⟩, fun h1 => ⟨h1, fun h2 => ⟨h1, h2⟩⟩, fun h1 h2 => ⟨h1, h2⟩, fun h1 h2 => ⟨h1, h2⟩, fun h1 h2 => ⟨h1, h2⟩, fun h1 => ⟨h1, fun h2 => ⟨h1, h2⟩⟩, fun h1 => ?_, fun h1 => ?_⟩
    . refine Eq.symm ?_
      obtain ⟨h1, h2⟩ := h1
      have hd := ed.symm.trans h1
      rcases h2 with (h2 | h2) | h2
      . exact badc i.toNat (by omega) (by rw [lcharD, hl1, hd, decide_eq_false h2]; rfl)
      . by_cases e : l.getD i.toNat 0 = 45
        . exact bad0 (by rw [h2] at e; exact e)
        . exact badc i.toNat (by omega) (by rw [lcharD, hl1, hd, decide_eq_false e]; rfl)
      . by_cases e : l.getD i.toNat 0 = 45
        . exact bad1 (by rw [h2, show ((l.length : Int) - 1).toNat = l.length - 1 by omega] at e; exact e)
        . exact badc i.toNat (by omega) (by rw [lcharD, hl1, hd, decide_eq_false e]; rfl)
    . rcases h1 with h1 | h1
      . refine next (by rw [lcharD, hl1, ← ed, h1]; rfl) (fun e => ?_) hlt
        rw [e] at ed
        rw [ed] at h1
        cases h1
      . have e : l.getD i.toNat 0 = 45 := Classical.not_not.1 h1.1.1
        exact next (by rw [e]; decide) (fun _ => ⟨h1.1.2, h1.2⟩) hlt
theorem h54 : c_r13_isLabel.ok Tryz.prog GL 54 := con_ok (H := {}) (mkEnv_ok (gl := GL) (l := [(58, conSem c_r13_letter), (55, conSem c_r13_digit)]) (q := []) (d := []) _ tyOk (by kernel_rfl) ⟨h58.call, h55.call, trivial⟩ trivial trivial) (by kernel_rfl) (by kernel_rfl) (Eq.mp e54 k54)
def t56 : Prop :=
  ∀ (x : q6), (q55 x) -> List.length x.1 <= q88 -> (decide (q238 x) = false -> True) /\ (q100 x) /\ (q100 x) /\ (q101 x) /\ ((q175 x) = false -> True) /\ ((q175 x) = false -> (q174 x) = true
  /\ (q51 x) /\ True) /\ ((q175 x) = false -> (q174 x) = true /\ True) /\ ((q175 x) = false -> (q174 x) = true) /\ (q171 x) /\ (q171 x) /\ (q169 x) /\ (q169 x) /\ ((q173 x) = false -> (q172
  x) = true /\ (q172 x) = true /\ (q23 <= wrZ ((lnZ x.1) - q253) /\ wrZ ((lnZ x.1) - q253) < (lnZ x.1)) /\ True) /\ (q169 x) /\ ((q173 x) = false -> (q172 x) = true) /\ ((q170 x) = false ->
  True) /\ ((q170 x) = false -> ((q170 x) == false) = true /\ List.length x.1 < q22 /\ (∀ (y : q4), (q34 y) -> y.1 = decide (q23 <= idxS x.1 (bs { data := #[q231, q231] })) -> (y.1 = true ->
  false = localD x.1) /\ (y.1 = false -> ∃ (I : q8), ∃ (μ : q9), (q158 x I) /\ ∀ (y : q10) (z : Unit), (q73 y) -> True -> I y z -> (decide (y.1 < (lnZ x.1)) = true -> (q23 <= y.1 /\ y.1 <
  (lnZ x.1)) /\ True /\ (∀ (y_1 : q4), (q34 y_1) -> y_1.1 = mcharD (List.getD x.1 (q232 y) q23) -> ((!y_1.1) = true -> false = localD x.1) /\ (q155 y_1 x I y μ z)) /\ True) /\ (decide (y.1 <
  (lnZ x.1)) = false -> true = localD x.1))) /\ True) /\ ((q170 x) = !false -> false = localD x.1)
theorem e56 : t56 = Con.vc c_host_local GL (mkEnv ty [(49, i49), (43, conSem c_strings_Contains)] [] [] [0, 2, 26]) {} Tryz.f56.ntmps Tryz.f56.results.toList (bodyOf Tryz.f56) := by kernel_rfl
theorem k56 : t56 := by
  unfold t56
  delta q6 q55 q88 q238 q100 q101 q175 q174 q51 q171 q169 q173 q172 q23 wrZ lnZ q253 q170 q22 q4 q34 q231 q8 q9 q158 q10 q73 q232 q155 wsZ q228 q275 q295 wbZ wiZ
  rintro ⟨l, _⟩ hx hp
  have hp : l.length ≤ 1000000000 := hp
  try dsimp +instances only [dft_int, dft_sl, dft_str]
  simp only [true_and, and_true, eq_self_iff_true, implies_true, reduceCtorEq, false_implies, true_implies, decide_eq_true_eq, decide_eq_false_iff_not, beq_self_eq_true, Bool.not_eq_true', ne_eq, Decidable.not_not, List.nil_append, List.length_singleton, List.length_cons, List.length_nil, Nat.zero_add, Nat.add_zero, Nat.mul_one, and_self, beq_iff_eq, Bool.not_true, Bool.not_false, Bool.not_eq_false', Bool.cond_false_right, Bool.and_eq_true, imp_self, Bool.not_eq_true, Bool.cond_true_left, Bool.or_eq_true]
  have hb : bs { data := #[46, 46] } = [46, 46] := by decide
  rw [bs_nil, hb, idxS_dots]
  have hl0 : l = [] ↔ l.length = 0 := ⟨fun h => by rw [h]; rfl, List.eq_nil_of_length_eq_zero⟩
  have hw : IntKind.wrap .i64 ((l.length : Int) - 1) = l.length - 1 := wrapK _ (by omega) (by omega)
  have ht : ((l.length : Int) - 1).toNat = l.length - 1 := by omega
  rw [hw, ht]
  simp only [hl0, Bool.or_eq_false_iff, decide_eq_false_iff_not]
  refine ⟨fun h => ⟨h, by omega, by omega⟩, fun h => ⟨h, h, by omega, by omega⟩, fun h => ⟨h, by omega, ?_⟩, fun h => ?_⟩
  . rintro ⟨a, _⟩ _ ea
    simp only at ea ⊢
    have hl : localD l = (!dotsD l && l.all mcharD) := by
      rw [localD, decide_eq_true (by rw [Ne, hl0]; omega)]; rfl
    rw [hl, ← ea]
    refine ⟨fun h => by rw [h]; rfl, fun h => ?_⟩
    rw [h]
    show ∃ I μ, _
    refine ⟨fun y _ => 0 ≤ y.1 ∧ y.1 ≤ l.length ∧ ∀ j, j < y.1.toNat → mcharD (l.getD j 0) = true, fun y _ => ((l.length : Int) - y.1).toNat, ⟨by decide, by omega, fun j hj => by simp at hj⟩, ?_⟩
    rintro ⟨i, b, _⟩ _ _ ⟨i0, i1, i2⟩
    simp only at i0 i1 i2 ⊢
    have hw1 : IntKind.wrap .i64 (i + 1) = i + 1 := wrapK _ (by omega) (by omega)
    rw [hw1]
    refine ⟨fun hlt => ⟨⟨i0, hlt⟩, ?_⟩, fun hge => (all_get _ _ (fun j hj => i2 j (by omega))).symm⟩
    rintro ⟨c, _⟩ _ ec
    simp only at ec ⊢
    refine ⟨fun h => (all_not _ _ i.toNat (by omega) (ec.symm.trans h)).symm, fun h => ⟨⟨by omega, by omega, fun j hj => ?_⟩, by omega⟩⟩
    by_cases hji : j < i.toNat
    . exact i2 j hji
    . rw [show j = i.toNat by omega, ← ec]; exact h
  . rw [localD, decide_eq_false (fun hh => by rw [Ne, hl0] at hh; omega)]; rfl
theorem h56 : c_host_local.ok Tryz.prog GL 56 := con_ok (H := {}) (mkEnv_ok (gl := GL) (l := [(49, i49), (43, conSem c_strings_Contains)]) (q := []) (d := []) _ tyOk (by kernel_rfl) ⟨i49_ok, h43.call, trivial⟩ trivial trivial) (by kernel_rfl) (by kernel_rfl) (Eq.mp e56 k56)
noncomputable def i76 : CallSem → CallSem := vcSeq (mkEnv ty [(46, conSem c_strings_Cut)] [] [] [0, 1, 3, 4, 5, 17]) {} Tryz.f76.ntmps Tryz.f76.results.toList (bodyOf Tryz.f76)
theorem i76_ok : SeqOk Tryz.prog GL 76 i76 := seq_ok {} (mkEnv_ok (gl := GL) (l := [(46, conSem c_strings_Cut)]) (q := []) (d := []) _ tyOk (by kernel_rfl) ⟨h46.call, trivial⟩ trivial trivial) (by kernel_rfl) (by kernel_rfl)
noncomputable def i47 : CallSem := vcFn (mkEnv ty [] [] [] [0, 1, 2]) {} Tryz.f47.ntmps Tryz.f47.results.toList (bodyOf Tryz.f47)
theorem i47_ok : CallOk Tryz.prog GL 47 i47 := inl_ok {} (mkEnv_ok (gl := GL) (l := []) (q := []) (d := []) _ tyOk (by kernel_rfl) trivial trivial trivial) (by kernel_rfl) (by kernel_rfl)
def t25 : Prop :=
  ∀ (x : q6), (q55 x) -> List.length x.1 <= q88 -> q26 <= q56 /\ (decide ((253 : Int) < (lnZ x.1)) = true -> false = dnsD x.1) /\ (decide ((253 : Int) < (lnZ x.1)) = false -> q26 <= q56 /\
  List.length [SV.dat Kd.str x.1] <= q56 /\ (List.length x.1 < q22 /\ List.length q178 = q26) /\ (∀ (y : q3), (q27 y) -> y.1 = (q177 x).1 /\ y.2.1 = (q177 x).2.1 /\ y.2.2.1 = (q177 x).2.2 ->
  ∃ (I : Bool × List Int × List Int × Unit -> (Bool × Unit) × q85 × q85 × Unit -> Prop), ∃ (μ : Bool × List Int × List Int × Unit -> (Bool × Unit) × q85 × q85 × Unit -> Nat), (Value.bool
  false = Value.bool false /\ x.1 = x.1 /\ I (y.2.2.1, y.2.1, y.1, ()) ((false, ()), (bs { data := #[] }, ()), (x.1, ()), ())) /\ ∀ (y : Bool × List Int × List Int × Unit) (z : q15), (wbZ y.1
  /\ wsZ y.2.1 /\ wsZ y.2.2.1 /\ True) -> (wbZ z.1.1 /\ True) /\ (wsZ z.2.1.1 /\ True) /\ (wsZ z.2.2.1.1 /\ True) /\ True -> I y z -> List.length y.2.2.1 <= q88 /\ (∀ (y_1 : q4), (q34 y_1) ->
  y_1.1 = labelD y.2.2.1 -> ((!y_1.1) = true -> false = dnsD x.1) /\ ((!y_1.1) = false -> (y.1 = true -> (List.length y.2.1 < q22 /\ List.length q178 = q26) /\ (∀ (y_2 : q3), (q27 y_2) ->
  y_2.1 = (q176 y).1 /\ y_2.2.1 = (q176 y).2.1 /\ y_2.2.2.1 = (q176 y).2.2 -> Value.bool false = Value.bool false /\ x.1 = x.1 /\ I (y_2.2.2.1, y_2.2.1, y_2.1, ()) ((z.1.1, ()), (y.2.2.1,
  ()), (z.2.2.1.1, ()), ()) /\ μ (y_2.2.2.1, y_2.2.1, y_2.1, ()) ((z.1.1, ()), (y.2.2.1, ()), (z.2.2.1.1, ()), ()) < μ y z) /\ True) /\ (y.1 = false -> ∃ (I : Int × Bool × Unit -> (Bool ×
  Unit) × q85 × q85 × Unit -> Prop), ∃ (μ : Int × Bool × Unit -> (Bool × Unit) × q85 × q85 × Unit -> Nat), ((lnZ y.2.2.1) = (lnZ y.2.2.1) /\ y.2.2.1 = y.2.2.1 /\ y.2.2.1 = y.2.2.1 /\
  Value.bool false = Value.bool false /\ x.1 = x.1 /\ I (q23, false, ()) ((z.1.1, ()), (y.2.2.1, ()), (z.2.2.1.1, ()), ())) /\ ∀ (y_2 : q10) (z : q15), (q73 y_2) -> (wbZ z.1.1 /\ True) /\
  (wsZ z.2.1.1 /\ True) /\ (wsZ z.2.2.1.1 /\ True) /\ True -> I y_2 z -> (decide (y_2.1 < (lnZ y.2.2.1)) = true -> (q23 <= y_2.1 /\ y_2.1 < (lnZ y.2.2.1)) /\ True /\ (∀ (y_3 : q4), (q34 y_3)
  -> y_3.1 = digitD (List.getD y.2.2.1 (q232 y_2) q23) -> ((!y_3.1) = true -> (!false) = dnsD x.1) /\ ((!y_3.1) = false -> (lnZ y.2.2.1) = (lnZ y.2.2.1) /\ y.2.2.1 = y.2.2.1 /\ y.2.2.1 =
  y.2.2.1 /\ Value.bool false = Value.bool false /\ x.1 = x.1 /\ I (wrZ (q74 y_2), y_2.2.1, ()) ((z.1.1, ()), (z.2.1.1, ()), (z.2.2.1.1, ()), ()) /\ μ (wrZ (q74 y_2), y_2.2.1, ()) ((z.1.1,
  ()), (z.2.1.1, ()), (z.2.2.1.1, ()), ()) < μ y_2 z)) /\ True) /\ (decide (y_2.1 < (lnZ y.2.2.1)) = false -> (!true) = dnsD x.1)))) /\ True) /\ True)
theorem e25 : t25 = Con.vc c_host_DNS GL (mkEnv ty [(47, i47), (48, conSem c_host_label), (49, i49)] [(76, i76)] [] [0, 2, 3, 4, 7, 9, 10, 13]) {} Tryz.f25.ntmps Tryz.f25.results.toList (bodyOf Tryz.f25) := by kernel_rfl
theorem k25 : t25 := by
  unfold t25
  delta q6 q55 q88 q26 q56 lnZ q22 q178 q3 q27 q177 q85 q15 wbZ wsZ q4 q34 q176 q23 q10 q73 q232 wrZ q74 q231 q245 q228 wiZ q253
  rintro ⟨l, _⟩ hx hp
  have hp : l.length ≤ 1000000000 := hp
  try dsimp +instances only [dft_int, dft_sl, dft_str]
  simp only [true_and, and_true, eq_self_iff_true, implies_true, reduceCtorEq, false_implies, true_implies, decide_eq_true_eq, decide_eq_false_iff_not, beq_self_eq_true, Bool.not_eq_true', ne_eq, Decidable.not_not, List.nil_append, List.length_singleton, List.length_cons, List.length_nil, Nat.zero_add, Nat.add_zero, Nat.mul_one, and_self, beq_iff_eq, Bool.not_true, Bool.not_false, Bool.not_eq_false', Bool.cond_false_right, Bool.and_eq_true, imp_self, Bool.not_eq_true, Bool.cond_true_left, Bool.or_eq_true]
  have hb : bs { data := #[46] } = [46] := by decide
  have hd : ([46] : List Int).getD 0 0 = 46 := rfl
  rw [hb, hd, bs_nil]
  refine ⟨by decide, fun h => (dns_long (by omega)).symm, fun hn => ⟨by decide, by decide, ⟨by omega, rfl⟩, ?_⟩⟩
  rintro ⟨wd, rest, more, _⟩ _ ⟨e1, e2, e3⟩
  simp only at e1 e2 e3 ⊢
  have hcl := cutD_len l 46
  refine ⟨fun y _ => y.2.2.1.length ≤ l.length ∧ y.2.1.length ≤ l.length ∧ ∃ P, P.all labelD = true ∧ labelsD l = P ++ (y.2.2.1 :: if y.1 then labelsD y.2.1 else []), fun y _ => if y.1 then y.2.1.length + 1 else 0,
    ⟨by rw [e1]; exact hcl.1, by rw [e2]; exact hcl.2, [], rfl, by rw [e1, e2, e3]; exact labels_cut l⟩, ?_⟩
  rintro ⟨mo, re, w, _⟩ ⟨⟨z1, _⟩, ⟨z2, _⟩, ⟨z3, _⟩, _⟩ _ _ ⟨w1, w2, P, hP, hW⟩
  simp only at w1 w2 hW ⊢
  refine ⟨by omega, ?_⟩
  rintro ⟨b, _⟩ _ eb
  simp only at eb ⊢
  refine ⟨fun h => (dns_bad (w := w) (by rw [hW]; simp) (eb.symm.trans h)).symm, fun h => ⟨fun hm => ⟨⟨by omega, rfl⟩, ?_⟩, fun hm => ?_⟩⟩
  . rintro ⟨wd', re', mo', _⟩ _ ⟨f1, f2, f3⟩
    simp only at f1 f2 f3 ⊢
    have hcl := cutD_len re 46
    have hj := congrArg List.length (cutD_join re 46)
    rw [← f1, ← f2, ← f3] at hj
    rw [← f1, ← f2] at hcl
    refine ⟨⟨by omega, by omega, P ++ [w], ?_, ?_⟩, ?_⟩
    . rw [List.all_append, hP]
      simp [← eb, h]
    . rw [hW, hm, f1, f2, f3]
      simp only [if_true]
      rw [labels_cut re, List.append_assoc]
      rfl
    . rw [hm]
      simp only [if_true]
      split
      . rename_i hmo
        rw [hmo] at hj
        simp at hj
        omega
      . omega
  . have hWe : labelsD l = P ++ [w] := by rw [hW, hm]; rfl
    have hdn : dnsD l = !w.all digitD := by
      rw [dns_last (by omega) (by rw [hWe, List.all_append, hP]; simp [← eb, h]), hWe, last_snoc]
    rw [hdn]
    refine ⟨fun y _ => 0 ≤ y.1 ∧ y.1 ≤ w.length ∧ ∀ j, j < y.1.toNat → digitD (w.getD j 0) = true, fun y _ => ((w.length : Int) - y.1).toNat, ⟨Int.le_refl 0, by simp only; omega, fun j hj => by simp at hj⟩, ?_⟩
    rintro ⟨i, b2, _⟩ z _ _ ⟨i0, i1, i2⟩
    simp only at i0 i1 i2 ⊢
    have hw1 : IntKind.wrap .i64 (i + 1) = i + 1 := wrapK _ (by omega) (by omega)
    rw [hw1]
    refine ⟨fun hlt => ⟨⟨i0, hlt⟩, ?_⟩, fun hge => by rw [all_get _ _ (fun j hj => i2 j (by omega))]; rfl⟩
    rintro ⟨c, _⟩ _ ec
    simp only at ec ⊢
    refine ⟨fun h => by rw [all_not _ _ i.toNat (by omega) (ec.symm.trans h)]; rfl, fun h => ⟨⟨by omega, by omega, fun j hj => ?_⟩, by omega⟩⟩
    by_cases hji : j < i.toNat
    . exact i2 j hji
    . rw [show j = i.toNat by omega, ← ec]; exact h
theorem h25 : c_host_DNS.ok Tryz.prog GL 25 := con_ok (H := {}) (mkEnv_ok (gl := GL) (l := [(47, i47), (48, conSem c_host_label), (49, i49)]) (q := [(76, i76)]) (d := []) _ tyOk (by kernel_rfl) ⟨i47_ok, h48.call, i49_ok, trivial⟩ ⟨i76_ok, trivial⟩ trivial) (by kernel_rfl) (by kernel_rfl) (Eq.mp e25 k25)
def t29 : Prop :=
  ∀ (x : q6), (q55 x) -> List.length x.1 <= q88 -> ∃ (I : Int × Int × Unit -> List (List Int) × Unit -> Prop), ∃ (μ : Int × Int × Unit -> List (List Int) × Unit -> Nat), (Value.slice none q57
  q57 = Value.slice none q57 q57 /\ x.1 = x.1 /\ I (q23, q23, ()) ([], ())) /\ ∀ (y : q7) (z : q16), (q122 y) -> (Kd.wf (Kd.sl Kd.str) z.1 /\ True) -> I y z -> (decide (y.1 < (lnZ x.1)) =
  true -> (q23 <= y.1 /\ y.1 < (lnZ x.1)) /\ (decide (List.getD x.1 (Int.toNat y.1) q23 = (46 : Int)) = true -> (q23 <= y.2.1 /\ y.2.1 <= y.1 /\ y.1 <= (lnZ x.1)) /\ q57 < q26 /\ (List.length
  z.1 + List.length [List.drop (Int.toNat y.2.1) (List.take (Int.toNat y.1) x.1)]) * (16 : Nat) <= q81 /\ List.length z.1 + List.length [List.drop (Int.toNat y.2.1) (List.take (Int.toNat y.1)
  x.1)] <= q80 /\ Value.slice none q57 q57 = Value.slice none q57 q57 /\ x.1 = x.1 /\ I (wrZ (y.1 + q58), wrZ (y.1 + q58), ()) (z.1 ++ [List.drop (Int.toNat y.2.1) (List.take (Int.toNat y.1)
  x.1)], ()) /\ μ (wrZ (y.1 + q58), wrZ (y.1 + q58), ()) (z.1 ++ [List.drop (Int.toNat y.2.1) (List.take (Int.toNat y.1) x.1)], ()) < μ y z) /\ (decide (List.getD x.1 (Int.toNat y.1) q23 =
  (46 : Int)) = false -> Value.slice none q57 q57 = Value.slice none q57 q57 /\ x.1 = x.1 /\ I (wrZ (y.1 + q58), y.2.1, ()) (z.1, ()) /\ μ (wrZ (y.1 + q58), y.2.1, ()) (z.1, ()) < μ y z)) /\
  (decide (y.1 < (lnZ x.1)) = false -> (q23 <= y.2.1 /\ y.2.1 <= (lnZ x.1)) /\ q57 < q26 /\ (List.length z.1 + List.length [List.drop (Int.toNat y.2.1) x.1]) * (16 : Nat) <= q81 /\
  List.length z.1 + List.length [List.drop (Int.toNat y.2.1) x.1] <= q80 /\ z.1 ++ [List.drop (Int.toNat y.2.1) x.1] = labelsD x.1)
theorem e29 : t29 = Con.vc c_r13_Labels GL (mkEnv ty [] [] [] [0, 2, 3, 4, 5, 9, 15]) {} Tryz.f29.ntmps Tryz.f29.results.toList (bodyOf Tryz.f29) := by kernel_rfl
theorem k29 : t29 := by
  unfold t29
  delta q6 q55 q88 q57 q23 q7 q16 q122 lnZ q26 q81 q80 wrZ q58 wsZ wiZ
  rintro ⟨l, _⟩ hx hp
  have hp : l.length ≤ 1000000000 := hp
  try dsimp +instances only [dft_int, dft_sl, dft_str]
  simp only [true_and, and_true, eq_self_iff_true, implies_true, reduceCtorEq, false_implies, true_implies, decide_eq_true_eq, decide_eq_false_iff_not, beq_self_eq_true, Bool.not_eq_true', ne_eq, Decidable.not_not, List.nil_append, List.length_singleton, List.length_cons, List.length_nil, Nat.zero_add, Nat.add_zero, Nat.mul_one, and_self, beq_iff_eq, Bool.not_true, Bool.not_false, Bool.not_eq_false', Bool.cond_false_right, Bool.and_eq_true, imp_self, Bool.not_eq_true, Bool.cond_true_left, Bool.or_eq_true]
  refine ⟨fun y z => 0 ≤ y.2.1 ∧ y.2.1 ≤ y.1 ∧ y.1 ≤ l.length ∧ (z.1.length : Int) ≤ y.1 ∧ labelsD l = z.1 ++ splitA 46 ((l.take y.1.toNat).drop y.2.1.toNat) (l.drop y.1.toNat), fun y _ => ((l.length : Int) - y.1).toNat, ⟨Int.le_refl 0, Int.le_refl 0, by simp only; omega, by simp, rfl⟩, ?_⟩
  rintro ⟨i, f, _⟩ ⟨z, _⟩ _ _ ⟨f0, f1, i1, z1, hW⟩
  simp only at f0 f1 i1 z1 hW ⊢
  have hw1 : IntKind.wrap .i64 (i + 1) = i + 1 := wrapK _ (by omega) (by omega)
  rw [hw1]
  refine ⟨fun hlt => ⟨⟨by omega, hlt⟩, fun hc => ⟨⟨f0, f1, i1⟩, by decide, by omega, by omega, ⟨by omega, by omega, by omega, by simp; omega, ?_⟩, by omega⟩, fun hc => ⟨⟨f0, by omega, by omega, by omega, ?_⟩, by omega⟩⟩, fun hge => ⟨⟨f0, by omega⟩, by decide, by omega, by omega, ?_⟩⟩
  . rw [hW, drop_cons l i.toNat (by omega), hc, splitA, if_pos rfl, List.append_assoc, show (i + 1).toNat = i.toNat + 1 by omega, List.drop_of_length_le (by simp; omega : (l.take (i.toNat + 1)).length ≤ i.toNat + 1)]
    rfl
  . rw [hW, drop_cons l i.toNat (by omega), splitA, if_neg hc, show (i + 1).toNat = i.toNat + 1 by omega, take_snoc l i.toNat (by omega), List.drop_append_of_le_length (by simp; omega)]
  . rw [hW, List.drop_of_length_le (by omega : l.length ≤ i.toNat), List.take_of_length_le (by omega : l.length ≤ i.toNat)]
    rfl
theorem h29 : c_r13_Labels.ok Tryz.prog GL 29 := con_ok (H := {}) (mkEnv_ok (gl := GL) (l := []) (q := []) (d := []) _ tyOk (by kernel_rfl) trivial trivial trivial) (by kernel_rfl) (by kernel_rfl) (Eq.mp e29 k29)
def t28 : Prop :=
  ∀ (x : q6), (q55 x) -> List.length x.1 <= q88 -> (decide ((253 : Int) < (lnZ x.1)) = true -> false = dnsD x.1) /\ (decide ((253 : Int) < (lnZ x.1)) = false -> List.length x.1 <= q88 /\ (∀
  (y : q16), (Kd.wf (Kd.sl Kd.str) y.1 /\ True) -> y.1 = labelsD x.1 -> ∃ (I : q8), ∃ (μ : q9), (Value.bool false = Value.bool false /\ x.1 = x.1 /\ y.1 = y.1 /\ I (q23, false, ()) ()) /\ ∀
  (y_1 : q10) (z : Unit), (q73 y_1) -> True -> I y_1 z -> (decide (y_1.1 < (lnZ y.1)) = true -> (q23 <= y_1.1 /\ y_1.1 < (lnZ y.1)) /\ List.length (List.getD y.1 (q232 y_1) (Kd.dft Kd.str))
  <= q88 /\ (∀ (y_2 : q4), (q34 y_2) -> y_2.1 = labelD (List.getD y.1 (q232 y_1) (Kd.dft Kd.str)) -> ((!y_2.1) = true -> false = dnsD x.1) /\ ((!y_2.1) = false -> Value.bool false =
  Value.bool false /\ x.1 = x.1 /\ y.1 = y.1 /\ I (wrZ (q74 y_1), y_1.2.1, ()) () /\ μ (wrZ (q74 y_1), y_1.2.1, ()) () < μ y_1 z)) /\ True) /\ (decide (y_1.1 < (lnZ y.1)) = false -> (q23 <=
  wrZ ((lnZ y.1) - q253) /\ wrZ ((lnZ y.1) - q253) < (lnZ y.1)) /\ ∃ (I : q8), ∃ (μ : q9), (List.getD y.1 (q180 y) (Kd.dft Kd.str) = List.getD y.1 (q180 y) (Kd.dft Kd.str) /\ Value.bool false
  = Value.bool false /\ y_1.1 = y_1.1 /\ Value.bool false = Value.bool false /\ x.1 = x.1 /\ y.1 = y.1 /\ I (q23, y_1.2.1, ()) ()) /\ ∀ (y_2 : q10) (z : Unit), (q73 y_2) -> True -> I y_2 z ->
  (decide (y_2.1 < (q179 y)) = true -> (q23 <= y_2.1 /\ y_2.1 < (q179 y)) /\ True /\ (∀ (y_3 : q4), (q34 y_3) -> y_3.1 = digitD (List.getD (List.getD y.1 (Int.toNat (wrZ ((lnZ y.1) - q253)))
  (Kd.dft Kd.str)) (q232 y_2) q23) -> ((!y_3.1) = true -> true = dnsD x.1) /\ ((!y_3.1) = false -> List.getD y.1 (q180 y) (Kd.dft Kd.str) = List.getD y.1 (q180 y) (Kd.dft Kd.str) /\
  Value.bool false = Value.bool false /\ y_1.1 = y_1.1 /\ Value.bool false = Value.bool false /\ x.1 = x.1 /\ y.1 = y.1 /\ I (wrZ (q74 y_2), y_2.2.1, ()) () /\ μ (wrZ (q74 y_2), y_2.2.1, ())
  () < μ y_2 z)) /\ True) /\ (decide (y_2.1 < (q179 y)) = false -> false = dnsD x.1))) /\ True)
theorem e28 : t28 = Con.vc c_r13_DNS GL (mkEnv ty [(29, conSem c_r13_Labels), (54, conSem c_r13_isLabel), (55, conSem c_r13_digit)] [] [] [0, 2, 3, 4, 5, 6, 9, 15, 23, 33, 40]) {} Tryz.f28.ntmps Tryz.f28.results.toList (bodyOf Tryz.f28) := by kernel_rfl
theorem k28 : t28 := by
  unfold t28
  delta q6 q55 q88 lnZ q16 q8 q9 q23 q10 q73 q232 q4 q34 wrZ q74 q253 q180 q179 wsZ wiZ wbZ
  rintro ⟨l, _⟩ hx hp
  have hp : l.length ≤ 1000000000 := hp
  try dsimp +instances only [dft_int, dft_sl, dft_str]
  simp only [true_and, and_true, eq_self_iff_true, implies_true, reduceCtorEq, false_implies, true_implies, decide_eq_true_eq, decide_eq_false_iff_not, beq_self_eq_true, Bool.not_eq_true', ne_eq, Decidable.not_not, List.nil_append, List.length_singleton, List.length_cons, List.length_nil, Nat.zero_add, Nat.add_zero, Nat.mul_one, and_self, beq_iff_eq, Bool.not_true, Bool.not_false, Bool.not_eq_false', Bool.cond_false_right, Bool.and_eq_true, imp_self, Bool.not_eq_true, Bool.cond_true_left, Bool.or_eq_true]
  refine ⟨fun h => (dns_long (by omega)).symm, fun hn => ⟨hp, ?_⟩⟩
  rintro ⟨W, _⟩ _ eW
  simp only at eW ⊢
  have hWl := labels_len l
  rw [← eW] at hWl
  have hmem : ∀ i, i < W.length → W.getD i [] ∈ labelsD l := fun i hi => by rw [← eW]; exact mem_getD [] W i hi
  refine ⟨fun y _ => 0 ≤ y.1 ∧ y.1 ≤ W.length ∧ ∀ j, j < y.1.toNat → labelD (W.getD j []) = true, fun y _ => ((W.length : Int) - y.1).toNat, ⟨Int.le_refl 0, by simp only; omega, fun j hj => by simp at hj⟩, ?_⟩
  rintro ⟨i, b, _⟩ _ _ ⟨i0, i1, i2⟩
  simp only at i0 i1 i2 ⊢
  have hw1 : IntKind.wrap .i64 (i + 1) = i + 1 := wrapK _ (by omega) (by omega)
  have hw2 : IntKind.wrap .i64 ((W.length : Int) - 1) = W.length - 1 := wrapK _ (by omega) (by omega)
  have hw3 : ((W.length : Int) - 1).toNat = W.length - 1 := by omega
  rw [hw1, hw2, hw3]
  refine ⟨fun hlt => ⟨⟨i0, hlt⟩, ?_, ?_⟩, fun hge => ⟨⟨by omega, by omega⟩, ?_⟩⟩
  . have := labelH_len (hmem i.toNat (by omega))
    omega
  . rintro ⟨c, _⟩ _ ec
    simp only at ec ⊢
    refine ⟨fun h => (dns_bad (hmem i.toNat (by omega)) (ec.symm.trans h)).symm, fun h => ⟨⟨by omega, by omega, fun j hj => ?_⟩, by omega⟩⟩
    by_cases hji : j < i.toNat
    . exact i2 j hji
    . rw [show j = i.toNat by omega, ← ec]; exact h
  . have hdn : dnsD l = !(W.getD (W.length - 1) []).all digitD := by
      rw [dns_last (by omega) (by rw [← eW]; exact all_getA [] _ _ (fun j hj => i2 j (by omega))), ← eW, last_get W hWl.2]
    rw [hdn]
    have hll := labelH_len (hmem (W.length - 1) (by omega))
    generalize W.getD (W.length - 1) [] = w at hll ⊢
    refine ⟨fun y _ => 0 ≤ y.1 ∧ y.1 ≤ w.length ∧ ∀ j, j < y.1.toNat → digitD (w.getD j 0) = true, fun y _ => ((w.length : Int) - y.1).toNat, ⟨Int.le_refl 0, by simp only; omega, fun j hj => by simp at hj⟩, ?_⟩
    rintro ⟨i, b2, _⟩ z _ ⟨i0, i1, i2⟩
    simp only at i0 i1 i2 ⊢
    have hw1 : IntKind.wrap .i64 (i + 1) = i + 1 := wrapK _ (by omega) (by omega)
    rw [hw1]
    refine ⟨fun hlt => ⟨⟨i0, hlt⟩, ?_⟩, fun hge => by rw [all_get _ _ (fun j hj => i2 j (by omega))]; rfl⟩
    rintro ⟨c, _⟩ _ ec
    simp only at ec ⊢
    refine ⟨fun h => by rw [all_not _ _ i.toNat (by omega) (ec.symm.trans h)]; rfl, fun h => ⟨⟨by omega, by omega, fun j hj => ?_⟩, by omega⟩⟩
    by_cases hji : j < i.toNat
    . exact i2 j hji
    . rw [show j = i.toNat by omega, ← ec]; exact h
theorem h28 : c_r13_DNS.ok Tryz.prog GL 28 := con_ok (H := {}) (mkEnv_ok (gl := GL) (l := [(29, conSem c_r13_Labels), (54, conSem c_r13_isLabel), (55, conSem c_r13_digit)]) (q := []) (d := []) _ tyOk (by kernel_rfl) ⟨h29.call, h54.call, h55.call, trivial⟩ trivial trivial) (by kernel_rfl) (by kernel_rfl) (Eq.mp e28 k28)
def t17 : Prop :=
  ∀ (x : q6), (q55 x) -> List.length x.1 <= q88 -> True /\ (∀ (y : q5), (wsZ y.1 /\ wbZ y.2.1 /\ True) -> (y.1 = if hasP q182 x.1 = true then List.drop (List.length q182) x.1 else x.1) /\
  y.2.1 = hasP q182 x.1 -> (y.2.1 = true -> True) /\ (y.2.1 = true -> (y.2.1 == true) = true /\ True) /\ (y.2.1 = true -> (y.2.1 == true) = true /\ True) /\ (y.2.1 = true -> (y.2.1 == true) =
  true) /\ ((q181 y x) = true -> True) /\ ((q181 y x) = true -> ((q181 y x) == true) = true /\ List.length y.1 < q22 /\ (∀ (y_1 : q4), (q34 y_1) -> y_1.1 = decide (q23 <= idxS y.1 q178) ->
  (y_1.1 = true -> True) /\ (y_1.1 = true -> (y_1.1 == true) = true /\ List.length y.1 <= q88 /\ (∀ (y_2 : q4), (q34 y_2) -> y_2.1 = dnsD y.1 -> y_2.1 = wildD x.1) /\ True) /\ (y_1.1 = !true
  -> false = wildD x.1)) /\ True) /\ ((q181 y x) = !true -> false = wildD x.1)) /\ True
theorem e17 : t17 = Con.vc c_host_Wild GL (mkEnv ty [(42, conSem c_strings_CutPrefix), (43, conSem c_strings_Contains), (25, conSem c_host_DNS)] [] [] [0, 2, 3, 4]) {} Tryz.f17.ntmps Tryz.f17.results.toList (bodyOf Tryz.f17) := by kernel_rfl
theorem k17 : t17 := by
  unfold t17
  delta q6 q55 q88 q5 wsZ wbZ q182 q181 q22 q4 q34 q23 q178 q231 lnZ
  rintro ⟨l, _⟩ hx hp
  have hp : l.length ≤ 1000000000 := hp
  try dsimp +instances only [dft_int, dft_sl, dft_str]
  simp only [true_and, and_true, eq_self_iff_true, implies_true, reduceCtorEq, false_implies, true_implies, decide_eq_true_eq, decide_eq_false_iff_not, beq_self_eq_true, Bool.not_eq_true', ne_eq, Decidable.not_not, List.nil_append, List.length_singleton, List.length_cons, List.length_nil, Nat.zero_add, Nat.add_zero, Nat.mul_one, and_self, beq_iff_eq, Bool.not_true, Bool.not_false, Bool.not_eq_false', Bool.cond_false_right, Bool.and_eq_true, imp_self, Bool.not_eq_true, Bool.cond_true_left, Bool.or_eq_true]
  have hb : bs { data := #[46] } = [46] := by decide
  have hb2 : bs { data := #[42, 46] } = [42, 46] := by decide
  rw [hb, hb2]
  rintro ⟨a, b, _⟩ _ ⟨ea, eb⟩
  simp only at ea eb ⊢
  have hal : a.length ≤ l.length := by rw [ea]; split <;> simp
  refine ⟨fun h => ⟨h, by omega, ?_⟩, fun h => ?_⟩
  . have hh : hasP [42, 46] l = true := eb.symm.trans h.1
    rw [if_pos hh] at ea
    have ea : a = l.drop 2 := ea
    rintro ⟨c, _⟩ _ ec
    simp only at ec ⊢
    rw [contains_one, ea] at ec
    have hwd : wildD l = (c && dnsD a) := by
      rw [wildD, hh, decide_eq_true (show l.length ≤ 253 by omega), ← ec, ← ea]; rfl
    rw [hwd]
    refine ⟨fun hc => ⟨hc, by omega, ?_⟩, fun hc => by rw [hc]; rfl⟩
    rintro ⟨d, _⟩ _ ed
    simp only at ed ⊢
    rw [hc, ed]; rfl
  . rw [eb] at h
    rw [wildD, ← Bool.and_assoc, show decide (l.length ≤ 253) = decide ((l.length : Int) ≤ 253) from decide_eq_decide.2 (by omega), h]; rfl
theorem h17 : c_host_Wild.ok Tryz.prog GL 17 := con_ok (H := {}) (mkEnv_ok (gl := GL) (l := [(42, conSem c_strings_CutPrefix), (43, conSem c_strings_Contains), (25, conSem c_host_DNS)]) (q := []) (d := []) _ tyOk (by kernel_rfl) ⟨h42.call, h43.call, h25.call, trivial⟩ trivial trivial) (by kernel_rfl) (by kernel_rfl) (Eq.mp e17 k17)
def t32 : Prop :=
  ∀ (x : q6), (q55 x) -> List.length x.1 <= q88 -> (List.length x.1 < q22 /\ List.length (bs { data := #[(64 : UInt8)] }) = q26) /\ (∀ (y : q3), (q27 y) -> y.1 = (q183 x).1 /\ y.2.1 = (q183
  x).2.1 /\ y.2.2.1 = (q183 x).2.2 -> (y.2.2.1 = true -> True) /\ (y.2.2.1 = true -> (y.2.2.1 == true) = true /\ List.length y.1 <= q88 /\ (∀ (y_1 : q4), (q34 y_1) -> y_1.1 = localD y.1 ->
  (y_1.1 = true -> True) /\ (y_1.1 = true -> (y_1.1 == true) = true /\ List.length y.2.1 <= q88 /\ (∀ (y_2 : q4), (q34 y_2) -> y_2.1 = dnsD y.2.1 -> y_2.1 = emailD x.1) /\ True) /\ (y_1.1 =
  !true -> false = emailD x.1)) /\ True) /\ (y.2.2.1 = !true -> false = emailD x.1)) /\ True
theorem e32 : t32 = Con.vc c_host_Email GL (mkEnv ty [(46, conSem c_strings_Cut), (56, conSem c_host_local), (25, conSem c_host_DNS)] [] [] [0, 2, 3, 4, 5]) {} Tryz.f32.ntmps Tryz.f32.results.toList (bodyOf Tryz.f32) := by kernel_rfl
theorem k32 : t32 := by
  unfold t32
  delta q6 q55 q88 q22 q26 q3 q27 q183 q4 q34 wsZ wbZ q276 q295
  rintro ⟨l, _⟩ hx hp
  have hp : l.length ≤ 1000000000 := hp
  try dsimp +instances only [dft_int, dft_sl, dft_str]
  simp only [true_and, and_true, eq_self_iff_true, implies_true, reduceCtorEq, false_implies, true_implies, decide_eq_true_eq, decide_eq_false_iff_not, beq_self_eq_true, Bool.not_eq_true', ne_eq, Decidable.not_not, List.nil_append, List.length_singleton, List.length_cons, List.length_nil, Nat.zero_add, Nat.add_zero, Nat.mul_one, and_self, beq_iff_eq, Bool.not_true, Bool.not_false, Bool.not_eq_false', Bool.cond_false_right, Bool.and_eq_true, imp_self, Bool.not_eq_true, Bool.cond_true_left, Bool.or_eq_true]
  have hb : bs { data := #[64] } = [64] := by decide
  have hd : ([64] : List Int).getD 0 0 = 64 := rfl
  rw [hb, hd]
  have hcl := cutD_len l 64
  refine ⟨⟨by omega, rfl⟩, ?_⟩
  rintro ⟨a, b, c, _⟩ _ ⟨ea, eb, ec⟩
  simp only at ea eb ec ⊢
  have he : emailD l = (c && (localD a && dnsD b)) := by rw [emailD, ea, eb, ec]
  rw [he]
  rw [← ea, ← eb] at hcl
  refine ⟨fun h => ⟨h, by omega, ?_⟩, fun h => by rw [h]; rfl⟩
  rintro ⟨u, _⟩ _ eu
  simp only at eu ⊢
  rw [h, ← eu]
  refine ⟨fun h => ⟨h, by omega, ?_⟩, fun h => by rw [h]; rfl⟩
  rintro ⟨v, _⟩ _ ev
  simp only at ev ⊢
  rw [h, ev]; rfl
theorem h32 : c_host_Email.ok Tryz.prog GL 32 := con_ok (H := {}) (mkEnv_ok (gl := GL) (l := [(46, conSem c_strings_Cut), (56, conSem c_host_local), (25, conSem c_host_DNS)]) (q := []) (d := []) _ tyOk (by kernel_rfl) ⟨h46.call, h56.call, h25.call, trivial⟩ trivial trivial) (by kernel_rfl) (by kernel_rfl) (Eq.mp e32 k32)
def t74 : Prop :=
  ∀ (x : q6), (q55 x) -> True -> (decide ((lnZ x.1) = (4 : Int)) = false -> True) /\ (decide ((lnZ x.1) = (4 : Int)) = false -> (decide ((lnZ x.1) = (4 : Int)) == false) = true /\ True) /\
  (decide ((lnZ x.1) = (4 : Int)) = false -> (decide ((lnZ x.1) = (4 : Int)) == false) = true /\ True) /\ (decide ((lnZ x.1) = (4 : Int)) = false -> (decide ((lnZ x.1) = (4 : Int)) == false)
  = true) /\ (bif decide ((lnZ x.1) = (4 : Int)) then true else decide ((lnZ x.1) = (16 : Int))) = ipD x.1
theorem e74 : t74 = Con.vc c_host_IP GL (mkEnv ty [] [] [] [0, 2]) {} Tryz.f74.ntmps Tryz.f74.results.toList (bodyOf Tryz.f74) := by kernel_rfl
theorem k74 : t74 := by
  unfold t74
  delta q6 q55 lnZ wsZ
  rintro ⟨l, _⟩ hx hp
  try dsimp +instances only [dft_int, dft_sl, dft_str]
  simp only [true_and, and_true, eq_self_iff_true, implies_true, reduceCtorEq, false_implies, true_implies, decide_eq_true_eq, decide_eq_false_iff_not, beq_self_eq_true, Bool.not_eq_true', ne_eq, Decidable.not_not, List.nil_append, List.length_singleton, List.length_cons, List.length_nil, Nat.zero_add, Nat.add_zero, Nat.mul_one, and_self, beq_iff_eq, Bool.not_true, Bool.not_false, Bool.not_eq_false', Bool.cond_false_right, Bool.and_eq_true, imp_self, Bool.not_eq_true, Bool.cond_true_left, Bool.or_eq_true]
  rw [Bool.eq_iff_iff, ipD]
  simp only [Bool.or_eq_true, decide_eq_true_eq]
  omega
theorem h74 : c_host_IP.ok Tryz.prog GL 74 := con_ok (H := {}) (mkEnv_ok (gl := GL) (l := []) (q := []) (d := []) _ tyOk (by kernel_rfl) trivial trivial trivial) (by kernel_rfl) (by kernel_rfl) (Eq.mp e74 k74)
end Go.Proofs.YtgnlcpoeepfdoaaGreatDoor
end
section
namespace Go.Proofs.YtgnlcpoeepfdoaaGreatDoor
open Go Go.Vc Go.Pl Go.Proofs
def c_host_small : Con := { args := [.dat .str], res := [.dat .str], pre := fun x => x.1.length ≤ 1000000000, post := fun x y => y.1 = lowD x.1 }
def c_r13_Small : Con := { args := [.dat .str], res := [.dat .str], pre := fun x => x.1.length ≤ 1000000000, post := fun x y => y.1 = lowD x.1 }
def c_host_Match : Con := { args := [.dat .str, .dat .str], res := [.dat .bool], pre := fun x => x.1.length ≤ 1000000000 ∧ x.2.1.length ≤ 1000000000, post := fun x y => y.1 = matchD x.1 x.2.1 }
end Go.Proofs.YtgnlcpoeepfdoaaGreatDoor
end
section
namespace Go.Proofs.YtgnlcpoeepfdoaaGreatDoor
open Go Go.Vc Go.Pl Go.Proofs
set_option linter.unusedVariables false
set_option linter.unusedSimpArgs false
abbrev q184 (p0 : q6) (p1 : q1) := (bif decide (q229 <= List.getD p0.1 (Int.toNat p1.1) q261) then decide (List.getD p0.1 (Int.toNat p1.1) q261 <= (90 : Int)) else false)
abbrev q185 (p0 : q6) (p1 : q1) := (IntKind.wrap IntKind.u8 (IntKind.wrap IntKind.u8 (List.getD p0.1 (Int.toNat p1.1) q261 + (97 : Int)) - q229))
abbrev q186 (p0 : q6) (p1 : q1) := (q229 <= List.getD p0.1 (Int.toNat p1.1) q261)
abbrev q187 (p0 : q6) (p1 : q1) := (bif decide (q229 <= List.getD p0.1 (Int.toNat p1.1) q228) then decide (List.getD p0.1 (Int.toNat p1.1) q228 <= (90 : Int)) else false)
abbrev q188 (p0 : q6) (p1 : q1) := (q229 <= List.getD p0.1 (Int.toNat p1.1) q228)
abbrev q189 (p0 : q6) (p1 : q1) := (List.getD p0.1 (Int.toNat p1.1) q228 + (32 : Int))
def t45 : Prop :=
  ∀ (x : q6), (q55 x) -> List.length x.1 <= q88 -> ∃ (I : Int × Unit -> List Int × Unit -> Prop), ∃ (μ : Int × Unit -> List Int × Unit -> Nat), ((lnZ x.1) = (lnZ x.1) /\ bs { data := #[] } =
  bs { data := #[] } /\ x.1 = x.1 /\ I (q23, ()) (x.1, ())) /\ ∀ (y : q1) (z : q6), (q20 y) -> (wyZ z.1 /\ True) -> I y z -> (decide (y.1 < (lnZ x.1)) = true -> (q23 <= y.1 /\ y.1 < (lnZ
  z.1)) /\ (decide (q186 z y) = true -> True) /\ (decide (q186 z y) = true -> (decide (q186 z y) == true) = true /\ True) /\ (decide (q186 z y) = true -> (decide (q186 z y) == true) = true)
  /\ ((q184 z y) = true -> (q23 <= y.1 /\ y.1 < (lnZ z.1)) /\ (lnZ x.1) = (lnZ x.1) /\ bs { data := #[] } = bs { data := #[] } /\ x.1 = x.1 /\ I (wrZ (q82 y), ()) (List.set z.1 (q25 y) (q185
  z y), ()) /\ μ (wrZ (q82 y), ()) (List.set z.1 (q25 y) (q185 z y), ()) < μ y z) /\ ((q184 z y) = false -> (lnZ x.1) = (lnZ x.1) /\ bs { data := #[] } = bs { data := #[] } /\ x.1 = x.1 /\ I
  (wrZ (q82 y), ()) (z.1, ()) /\ μ (wrZ (q82 y), ()) (z.1, ()) < μ y z)) /\ (decide (y.1 < (lnZ x.1)) = false -> z.1 = lowD x.1)
theorem e45 : t45 = Con.vc c_host_small GL (mkEnvO ty [] [] [] [0, 2, 3, 4, 5, 8, 9, 10, 11, 20] [7]) {} Tryz.f45.ntmps Tryz.f45.results.toList (bodyOf Tryz.f45) := by kernel_rfl
theorem k45 : t45 := by
  unfold t45
  delta q6 q55 q88 lnZ q23 q1 q20 wyZ q186 q184 wrZ q82 q25 q185 wsZ wiZ q229 q261 q253 q286
  rintro ⟨l, _⟩ hx hp
  have hp : l.length ≤ 1000000000 := hp
  try dsimp +instances only [dft_int, dft_sl, dft_str]
  simp only [true_and, and_true, eq_self_iff_true, implies_true, reduceCtorEq, false_implies, true_implies, decide_eq_true_eq, decide_eq_false_iff_not, beq_self_eq_true, Bool.not_eq_true', ne_eq, Decidable.not_not, List.nil_append, List.length_singleton, List.length_cons, List.length_nil, Nat.zero_add, Nat.add_zero, Nat.mul_one, and_self, beq_iff_eq, Bool.not_true, Bool.not_false, Bool.not_eq_false', Bool.cond_false_right, Bool.and_eq_true, imp_self, Bool.not_eq_true, Bool.cond_true_left, Bool.or_eq_true]
  refine ⟨fun y z => 0 ≤ y.1 ∧ y.1 ≤ l.length ∧ z.1 = lowD (l.take y.1.toNat) ++ l.drop y.1.toNat, fun y _ => ((l.length : Int) - y.1).toNat, ⟨Int.le_refl 0, by simp only; omega, rfl⟩, ?_⟩
  rintro ⟨i, _⟩ ⟨z, _⟩ _ _ ⟨i0, i1, ez⟩
  simp only at i0 i1 ez ⊢
  have hw1 : IntKind.wrap .i64 (i + 1) = i + 1 := wrapK _ (by omega) (by omega)
  have hzl : (lowD (l.take i.toNat)).length = i.toNat := by rw [low_len, List.length_take]; omega
  have hll : z.length = l.length := by rw [ez, List.length_append, hzl, List.length_drop]; omega
  rw [hw1]
  have e1 : (i + 1).toNat = i.toNat + 1 := by omega
  have hg : z.getD i.toNat 0 = l.getD i.toNat 0 := by
    have := getD_append_right (lowD (l.take i.toNat)) (l.drop i.toNat) 0
    rw [hzl, Nat.add_zero] at this
    rw [ez, this, getD_drop, Nat.add_zero]
  have step : i < l.length → lowD (l.take (i + 1).toNat) = lowD (l.take i.toNat) ++ [smallD (l.getD i.toNat 0)] := fun hlt => by
    rw [e1, take_snoc l i.toNat (by omega)]
    simp [lowD]
  rw [hg]
  refine ⟨fun hlt => ⟨⟨i0, by omega⟩, fun h => ⟨⟨i0, by omega⟩, ⟨by omega, by omega, ?_⟩, by omega⟩, fun h => ⟨⟨by omega, by omega, ?_⟩, by omega⟩⟩, fun hge => ?_⟩
  . have w1 : IntKind.wrap .u8 (l.getD i.toNat 0 + 97) = l.getD i.toNat 0 + 97 := wrap8 _ (by omega) (by omega)
    rw [w1, wrap8 (l.getD i.toNat 0 + 97 - 65) (by omega) (by omega), step hlt, smallD, if_pos h, ez, drop_cons l i.toNat (by omega)]
    have e2 : (lowD (l.take i.toNat) ++ l.getD i.toNat 0 :: l.drop (i.toNat + 1)).set i.toNat (l.getD i.toNat 0 + 97 - 65) = lowD (l.take i.toNat) ++ (l.getD i.toNat 0 + 97 - 65) :: l.drop (i.toNat + 1) := by
      rw [List.set_append_right _ _ (by omega), hzl, Nat.sub_self]; rfl
    rw [e2, e1, List.append_assoc, show l.getD i.toNat 0 + 97 - 65 = l.getD i.toNat 0 + 32 by omega]
    rfl
  . simp only [Bool.and_eq_false_iff, decide_eq_false_iff_not] at h
    rw [step hlt, smallD, if_neg (by omega), ez, drop_cons l i.toNat (by omega), e1, List.append_assoc]
    rfl
  . rw [ez, List.take_of_length_le (by omega), List.drop_of_length_le (by omega), List.append_nil]
theorem h45 : c_host_small.ok Tryz.prog GL 45 := conO_ok (H := {}) (mkEnvO_ok (gl := GL) (l := []) (q := []) (d := []) _ [7] tyOk (by kernel_rfl) trivial trivial trivial) (by kernel_rfl) (by kernel_rfl) (Eq.mp e45 k45)
def t30 : Prop :=
  ∀ (x : q6), (q55 x) -> List.length x.1 <= q88 -> ∃ (I : Int × Unit -> List Int × Unit -> Prop), ∃ (μ : Int × Unit -> List Int × Unit -> Nat), (bs { data := #[] } = bs { data := #[] } /\ x.1
  = x.1 /\ I (q23, ()) ([], ())) /\ ∀ (y : q1) (z : q6), (q20 y) -> (wyZ z.1 /\ True) -> I y z -> (decide (y.1 < (lnZ x.1)) = true -> (q23 <= y.1 /\ y.1 < (lnZ x.1)) /\ (decide (q188 x y) =
  true -> True) /\ (decide (q188 x y) = true -> (decide (q188 x y) == true) = true /\ True) /\ (decide (q188 x y) = true -> (decide (q188 x y) == true) = true) /\ ((q187 x y) = true -> q57 <
  q26 /\ (List.length z.1 + List.length [IntKind.wrap IntKind.u8 (q189 x y)]) * q26 <= q81 /\ List.length z.1 + List.length [IntKind.wrap IntKind.u8 (q189 x y)] <= q80 /\ bs { data := #[] } =
  bs { data := #[] } /\ x.1 = x.1 /\ I (wrZ (q82 y), ()) (z.1 ++ [IntKind.wrap IntKind.u8 (q189 x y)], ()) /\ μ (wrZ (q82 y), ()) (z.1 ++ [IntKind.wrap IntKind.u8 (q189 x y)], ()) < μ y z) /\
  ((q187 x y) = false -> q57 < q26 /\ (List.length z.1 + List.length [List.getD x.1 (q25 y) q23]) * q26 <= q81 /\ List.length z.1 + List.length [List.getD x.1 (q25 y) q23] <= q80 /\ bs { data
  := #[] } = bs { data := #[] } /\ x.1 = x.1 /\ I (wrZ (q82 y), ()) (z.1 ++ [List.getD x.1 (q25 y) q23], ()) /\ μ (wrZ (q82 y), ()) (z.1 ++ [List.getD x.1 (q25 y) q23], ()) < μ y z)) /\
  (decide (y.1 < (lnZ x.1)) = false -> z.1 = lowD x.1)
theorem e30 : t30 = Con.vc c_r13_Small GL (mkEnv ty [] [] [] [0, 2, 3, 4, 5, 9, 20]) {} Tryz.f30.ntmps Tryz.f30.results.toList (bodyOf Tryz.f30) := by kernel_rfl
theorem k30 : t30 := by
  unfold t30
  delta q6 q55 q88 q23 q1 q20 wyZ lnZ q188 q187 q57 q26 q189 q81 q80 wrZ q82 q25 wsZ wiZ q229 q228 q253
  rintro ⟨l, _⟩ hx hp
  have hp : l.length ≤ 1000000000 := hp
  try dsimp +instances only [dft_int, dft_sl, dft_str]
  simp only [true_and, and_true, eq_self_iff_true, implies_true, reduceCtorEq, false_implies, true_implies, decide_eq_true_eq, decide_eq_false_iff_not, beq_self_eq_true, Bool.not_eq_true', ne_eq, Decidable.not_not, List.nil_append, List.length_singleton, List.length_cons, List.length_nil, Nat.zero_add, Nat.add_zero, Nat.mul_one, and_self, beq_iff_eq, Bool.not_true, Bool.not_false, Bool.not_eq_false', Bool.cond_false_right, Bool.and_eq_true, imp_self, Bool.not_eq_true, Bool.cond_true_left, Bool.or_eq_true]
  refine ⟨fun y z => 0 ≤ y.1 ∧ y.1 ≤ l.length ∧ z.1 = lowD (l.take y.1.toNat), fun y _ => ((l.length : Int) - y.1).toNat, ⟨Int.le_refl 0, by simp only; omega, rfl⟩, ?_⟩
  rintro ⟨i, _⟩ ⟨z, _⟩ _ _ ⟨i0, i1, ez⟩
  simp only at i0 i1 ez ⊢
  have hw1 : IntKind.wrap .i64 (i + 1) = i + 1 := wrapK _ (by omega) (by omega)
  have hzl : z.length = i.toNat := by rw [ez, low_len, List.length_take]; omega
  rw [hw1]
  have step : i < l.length → ∀ c, c = smallD (l.getD i.toNat 0) → z ++ [c] = lowD (l.take (i + 1).toNat) := fun hlt c hc => by
    rw [show (i + 1).toNat = i.toNat + 1 by omega, take_snoc l i.toNat (by omega), ez, hc]
    simp [lowD]
  refine ⟨fun hlt => ⟨⟨i0, hlt⟩, fun h => ⟨by decide, by omega, by omega, ⟨by omega, by omega, step hlt _ ?_⟩, by omega⟩, fun h => ⟨by decide, by omega, by omega, ⟨by omega, by omega, step hlt _ ?_⟩, by omega⟩⟩, fun hge => by rw [ez, List.take_of_length_le (by omega)]⟩
  . rw [smallD, if_pos h, wrap8 _ (by omega) (by omega)]
  . simp only [Bool.and_eq_false_iff, decide_eq_false_iff_not] at h
    rw [smallD, if_neg (by omega)]
theorem h30 : c_r13_Small.ok Tryz.prog GL 30 := con_ok (H := {}) (mkEnv_ok (gl := GL) (l := []) (q := []) (d := []) _ tyOk (by kernel_rfl) trivial trivial trivial) (by kernel_rfl) (by kernel_rfl) (Eq.mp e30 k30)
def t19 : Prop :=
  ∀ (x : q2), (q21 x) -> List.length x.1 <= q88 /\ List.length x.2.1 <= q88 -> List.length x.2.1 <= q88 /\ (∀ (y : q4), (q34 y) -> y.1 = dnsD x.2.1 -> ((!y.1) = true -> false = matchD x.1
  x.2.1) /\ ((!y.1) = false -> List.length x.1 <= q88 /\ (∀ (y : q4), (q34 y) -> y.1 = dnsD x.1 -> (y.1 = true -> List.length x.1 <= q88 /\ (∀ (y : q6), (q55 y) -> y.1 = lowD x.1 ->
  List.length x.2.1 <= q88 /\ (∀ (y_1 : q6), (q55 y_1) -> y_1.1 = lowD x.2.1 -> decide (y.1 = y_1.1) = matchD x.1 x.2.1) /\ True) /\ True) /\ (y.1 = false -> List.length x.1 <= q88 /\ (∀ (y :
  q4), (q34 y) -> y.1 = wildD x.1 -> ((!y.1) = true -> false = matchD x.1 x.2.1) /\ ((!y.1) = false -> List.length x.2.1 <= q88 /\ (∀ (y : q6), (q55 y) -> y.1 = lowD x.2.1 -> (List.length y.1
  < q22 /\ List.length q178 = q26) /\ (∀ (y_1 : q3), (q27 y_1) -> y_1.1 = (q177 y).1 /\ y_1.2.1 = (q177 y).2.1 /\ y_1.2.2.1 = (q177 y).2.2 -> (y_1.2.2.1 = true -> True) /\ (y_1.2.2.1 = true
  -> True) /\ (y_1.2.2.1 = true -> (y_1.2.2.1 == true) = true /\ (q23 <= q60 /\ q60 <= (lnZ x.1)) /\ True) /\ (y_1.2.2.1 = true -> (y_1.2.2.1 == true) = true /\ List.length (List.drop q59
  x.1) <= q88 /\ (∀ (y : q6), (q55 y) -> y.1 = lowD (List.drop q59 x.1) -> (y_1.2.2.1 == true) = true /\ decide (y_1.2.1 = y.1) = matchD x.1 x.2.1) /\ True) /\ (y_1.2.2.1 = !true -> false =
  matchD x.1 x.2.1)) /\ True) /\ True)) /\ True)) /\ True)) /\ True
theorem e19 : t19 = Con.vc c_host_Match GL (mkEnv ty [(25, conSem c_host_DNS), (45, conSem c_host_small), (17, conSem c_host_Wild), (46, conSem c_strings_Cut)] [] [] [0, 1, 4, 6, 7, 8, 12, 20]) {} Tryz.f19.ntmps Tryz.f19.results.toList (bodyOf Tryz.f19) := by kernel_rfl
theorem k19 : t19 := by
  unfold t19
  delta q2 q21 q88 q4 q34 q6 q55 q22 q178 q26 q3 q27 q177 q23 q60 lnZ q59 wsZ wbZ q231 q245 q228
  rintro ⟨l, m, _⟩ hx hp
  obtain ⟨h1, h2⟩ := hp
  simp only at h1 h2
  try dsimp +instances only [dft_int, dft_sl, dft_str]
  simp only [true_and, and_true, eq_self_iff_true, implies_true, reduceCtorEq, false_implies, true_implies, decide_eq_true_eq, decide_eq_false_iff_not, beq_self_eq_true, Bool.not_eq_true', ne_eq, Decidable.not_not, List.nil_append, List.length_singleton, List.length_cons, List.length_nil, Nat.zero_add, Nat.add_zero, Nat.mul_one, and_self, beq_iff_eq, Bool.not_true, Bool.not_false, Bool.not_eq_false', Bool.cond_false_right, Bool.and_eq_true, imp_self, Bool.not_eq_true, Bool.cond_true_left, Bool.or_eq_true]
  have hb : bs { data := #[46] } = [46] := by decide
  have hd : ([46] : List Int).getD 0 0 = 46 := rfl
  rw [hb, hd]
  refine ⟨h2, ?_⟩
  rintro ⟨a, _⟩ _ ea
  simp only at ea ⊢
  rw [matchD, ← ea]
  refine ⟨fun h => by rw [h]; rfl, fun h => ⟨h1, ?_⟩⟩
  rintro ⟨b, _⟩ _ eb
  simp only at eb ⊢
  rw [h, ← eb]
  refine ⟨fun h => ⟨h1, ?_⟩, fun h => ⟨h1, ?_⟩⟩
  . rintro ⟨c, _⟩ _ ec
    refine ⟨h2, ?_⟩
    rintro ⟨d, _⟩ _ ed
    simp only at ec ed ⊢
    rw [ec, ed, h]; rfl
  . rintro ⟨c, _⟩ _ ec
    simp only at ec ⊢
    rw [h, ← ec]
    refine ⟨fun h => by rw [h]; rfl, fun h => ⟨h2, ?_⟩⟩
    rintro ⟨d, _⟩ _ ed
    simp only at ed ⊢
    subst ed
    have hll := low_len m
    refine ⟨⟨by omega, rfl⟩, ?_⟩
    rintro ⟨u, v, w, _⟩ _ ⟨eu, ev, ew⟩
    simp only at eu ev ew ⊢
    rw [h, ← ev, ← ew]
    obtain ⟨r, rfl, _⟩ := wild_form (ec.symm.trans h)
    refine ⟨fun h => ⟨h, by decide, by simp; omega⟩, fun h => ⟨h, by simp at *; omega, ?_⟩, fun h => by rw [h]; rfl⟩
    rintro ⟨x, _⟩ _ ex
    simp only at ex ⊢
    rw [h, ex]
    exact ⟨rfl, rfl⟩
theorem h19 : c_host_Match.ok Tryz.prog GL 19 := con_ok (H := {}) (mkEnv_ok (gl := GL) (l := [(25, conSem c_host_DNS), (45, conSem c_host_small), (17, conSem c_host_Wild), (46, conSem c_strings_Cut)]) (q := []) (d := []) _ tyOk (by kernel_rfl) ⟨h25.call, h45.call, h17.call, h46.call, trivial⟩ trivial trivial) (by kernel_rfl) (by kernel_rfl) (Eq.mp e19 k19)
end Go.Proofs.YtgnlcpoeepfdoaaGreatDoor
end
