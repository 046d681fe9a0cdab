/- Texts of a verified walk, led together: HostA, HostW. -/
import Derived.Test.YtiofbnlbfmbodaaGreatDoorZW06
import Derived.Test.YtiofbnlbfmbodaaGreatDoorZV13
set_option linter.unusedVariables false
set_option linter.unusedSimpArgs false
section
namespace Go.Proofs.YtiofbnlbfmbodaaGreatDoor
open Go Go.Vc Go.Pl Go.Proofs
def c_host_letter : Con := { args := [.dat U8], res := [.dat .bool], pre := fun _ => True, post := fun x y => y.1 = letterD x.1 }
def c_host_digit : Con := { args := [.dat U8], res := [.dat .bool], pre := fun _ => True, post := fun x y => y.1 = digitD x.1 }
def c_host_label_1 : Con := { args := [.dat U8], res := [.dat .bool], pre := fun _ => True, post := fun x y => y.1 = lcharD x.1 }
def c_host_local_1 : Con := { args := [.dat U8], res := [.dat .bool], pre := fun _ => True, post := fun x y => y.1 = mcharD x.1 }
def c_host_label : Con := { args := [.dat .str], res := [.dat .bool], pre := fun x => x.1.length ≤ 1000000000, post := fun x y => y.1 = labelD x.1 }
def c_host_local : Con := { args := [.dat .str], res := [.dat .bool], pre := fun x => x.1.length ≤ 1000000000, post := fun x y => y.1 = localD x.1 }
def c_host_DNS : Con := { args := [.dat .str], res := [.dat .bool], pre := fun x => x.1.length ≤ 1000000000, post := fun x y => y.1 = dnsD x.1 }
def c_host_Wild : Con := { args := [.dat .str], res := [.dat .bool], pre := fun x => x.1.length ≤ 1000000000, post := fun x y => y.1 = wildD x.1 }
def c_host_Email : Con := { args := [.dat .str], res := [.dat .bool], pre := fun x => x.1.length ≤ 1000000000, post := fun x y => y.1 = emailD x.1 }
def c_host_IP : Con := { args := [.dat .str], res := [.dat .bool], pre := fun _ => True, post := fun x y => y.1 = ipD x.1 }
end Go.Proofs.YtiofbnlbfmbodaaGreatDoor
end
section
namespace Go.Proofs.YtiofbnlbfmbodaaGreatDoor
open Go Go.Vc Go.Pl Go.Proofs
set_option linter.unusedVariables false
set_option linter.unusedSimpArgs false
abbrev q19 := ((Bool × Unit) × (List Int × Unit) × (List Int × Unit) × Unit)
abbrev q389 (p0 : q1) := (bif decide ((97 : Int) <= p0.1) then decide (p0.1 <= (122 : Int)) else false)
abbrev q170 (p0 : q1) := ((q389 p0) == false && (q389 p0) == false && decide ((65 : Int) <= p0.1) == true)
abbrev q171 (p0 : q1) := ((q389 p0) == false && (q389 p0) == false)
abbrev q390 (p0 : q5) := (bif bif decide (p0.1 = bs { data := #[] }) then true else decide ((63 : Int) < (lnZ p0.1)) then true else decide (List.getD p0.1 q430 q421 = (45 : Int)))
abbrev q172 (p0 : q5) := ((q390 p0) = false -> ((q390 p0) == false) = true /\ True)
abbrev q173 (p0 : q5) := (bif bif bif decide (q338 p0) then true else decide ((63 : Int) < (lnZ p0.1)) then true else decide (List.getD p0.1 q430 q421 = (45 : Int)) then true else decide
  (List.getD p0.1 (Int.toNat (wrZ ((lnZ p0.1) - q334))) q332 = (45 : Int)))
abbrev q174 (p0 : q4) (p1 : q5) (p2 : q7) (p3 : q9) (p4 : q8) (p5 : Unit) := ((!p0.1) = false -> (lnZ p1.1) = (lnZ p1.1) /\ p1.1 = p1.1 /\ p1.1 = p1.1 /\ Value.bool false = Value.bool false
  /\ Value.bool false = Value.bool false /\ p1.1 = p1.1 /\ p2 (wrZ (p3.1 + q334), p3.2.1, ()) () /\ p4 (wrZ (p3.1 + q334), p3.2.1, ()) () < p4 p3 p5)
abbrev q175 (p0 : q5) := ((q390 p0) = false -> True)
abbrev q176 (p0 : q5) := ((q390 p0) == false)
abbrev q177 (p0 : q5) (p1 : q7) := ((lnZ p0.1) = (lnZ p0.1) /\ p0.1 = p0.1 /\ p0.1 = p0.1 /\ Value.bool false = Value.bool false /\ Value.bool false = Value.bool false /\ p0.1 = p0.1 /\ p1
  (q332, false, ()) ())
abbrev q178 (p0 : q5) := (bif bif decide (q338 p0) then true else decide ((63 : Int) < (lnZ p0.1)) then true else decide (List.getD p0.1 q430 q421 = (45 : Int)))
abbrev q179 (p0 : q5) := ((bif decide (q338 p0) then true else decide ((63 : Int) < (lnZ p0.1))) == false)
abbrev q180 (p0 : q5) := (bif decide (q338 p0) then true else decide ((63 : Int) < (lnZ p0.1)))
abbrev q391 (p0 : q5) := (bif bif decide (p0.1 = bs { data := #[] }) then true else decide ((64 : Int) < (lnZ p0.1)) then true else decide (List.getD p0.1 q430 q421 = (46 : Int)))
abbrev q181 (p0 : q5) := ((q391 p0) = false -> ((q391 p0) == false) = true /\ True)
abbrev q182 (p0 : q5) := (bif bif bif decide (q338 p0) then true else decide ((64 : Int) < (lnZ p0.1)) then true else decide (List.getD p0.1 q430 q421 = (46 : Int)) then true else decide
  (List.getD p0.1 (Int.toNat (wrZ ((lnZ p0.1) - q334))) q332 = (46 : Int)))
abbrev q183 (p0 : q5) := ((q391 p0) = false -> True)
abbrev q184 (p0 : q5) := ((q391 p0) == false)
abbrev q185 (p0 : q5) := (bif bif decide (q338 p0) then true else decide ((64 : Int) < (lnZ p0.1)) then true else decide (List.getD p0.1 q430 q421 = (46 : Int)))
abbrev q186 (p0 : q5) := ((bif decide (q338 p0) then true else decide ((64 : Int) < (lnZ p0.1))) == false)
abbrev q187 (p0 : q5) := (bif decide (q338 p0) then true else decide ((64 : Int) < (lnZ p0.1)))
abbrev q188 (p0 : Bool × List Int × List Int × Unit) := (cutD (List.getD (bs { data := #[(46 : UInt8)] }) q347 q332) p0.2.1)
abbrev q189 (p0 : q5) := (cutD (List.getD (bs { data := #[(46 : UInt8)] }) q347 q332) p0.1)
abbrev q190 := (bs { data := #[(46 : UInt8)] })
abbrev q191 (p0 : List Int × Bool × Unit) (p1 : q5) := (bif p0.2.1 then decide ((lnZ p1.1) <= (253 : Int)) else false)
abbrev q192 := (bs { data := #[(42 : UInt8), (46 : UInt8)] })
abbrev q193 (p0 : q4) := (p0.1 = true -> True)
abbrev q194 (p0 : q5) := (cutD (List.getD (bs { data := #[(64 : UInt8)] }) q347 q332) p0.1)
def t177 : Prop :=
  ∀ (x : q1), (q72 x) -> True -> (decide ((97 : Int) <= x.1) = true -> True) /\ (decide ((97 : Int) <= x.1) = true -> (decide ((97 : Int) <= x.1) == true) = true /\ True) /\ (decide ((97 :
  Int) <= x.1) = true -> (decide ((97 : Int) <= x.1) == true) = true) /\ ((q70 x) = false -> True) /\ ((q70 x) = false -> ((q70 x) == false) = true /\ True) /\ ((q70 x) = false -> True) /\
  ((q171 x) = true -> decide ((65 : Int) <= x.1) = true -> True) /\ ((q171 x) = true -> decide ((65 : Int) <= x.1) = true -> (q170 x) = true /\ True) /\ ((q70 x) = false -> (q171 x) = true /\
  (decide ((65 : Int) <= x.1) = true -> (q170 x) = true) /\ True) /\ ((q70 x) = false -> ((q70 x) == false) = true) /\ (bif bif decide ((97 : Int) <= x.1) then decide (x.1 <= (122 : Int))
  else false then true else bif decide ((65 : Int) <= x.1) then decide (x.1 <= (90 : Int)) else false) = letterD x.1
theorem e177 : t177 = Con.vc c_host_letter GL (mkEnv ty [] [] [] [0, 2]) {} Tryz.f177.ntmps Tryz.f177.results.toList (bodyOf Tryz.f177) := by kernel_rfl
theorem k177 : t177 := by
  unfold t177
  delta q1 q72 q70 q171 q170 q371 q389
  rintro ⟨l, _⟩ hx hp
  try dsimp +instances only [dft_int, dft_sl, dft_str]
  simp only [true_and, and_true, eq_self_iff_true, implies_true, reduceCtorEq, false_implies, true_implies, decide_eq_true_eq, decide_eq_false_iff_not, beq_self_eq_true, Bool.not_eq_true', ne_eq, Decidable.not_not, List.nil_append, List.length_singleton, List.length_cons, List.length_nil, Nat.zero_add, Nat.add_zero, Nat.mul_one, and_self, beq_iff_eq, Bool.not_true, Bool.not_false, Bool.not_eq_false', Bool.cond_false_right, Bool.and_eq_true, imp_self, Bool.not_eq_true, Bool.cond_true_left, Bool.or_eq_true]
  refine ⟨fun h h2 => ⟨h, h2⟩, fun h => ⟨h, fun h2 => ⟨h, h2⟩⟩, ?_⟩
  rw [Bool.eq_iff_iff, letterD]
  simp only [Bool.or_eq_true, Bool.and_eq_true, decide_eq_true_eq]
theorem h177 : c_host_letter.ok Tryz.prog GL 177 := con_ok (H := {}) (mkEnv_ok (gl := GL) (l := []) (q := []) (d := []) _ tyOk (by kernel_rfl) trivial trivial trivial) (by kernel_rfl) (by kernel_rfl) (Eq.mp e177 k177)
def t165 : Prop :=
  ∀ (x : q1), (q72 x) -> True -> (decide (q73 <= x.1) = true -> True) /\ (decide (q73 <= x.1) = true -> (decide (q73 <= x.1) == true) = true /\ True) /\ (decide (q73 <= x.1) = true -> (decide
  (q73 <= x.1) == true) = true) /\ (q71 x) = digitD x.1
theorem e165 : t165 = Con.vc c_host_digit GL (mkEnv ty [] [] [] [0, 2]) {} Tryz.f165.ntmps Tryz.f165.results.toList (bodyOf Tryz.f165) := by kernel_rfl
theorem k165 : t165 := by
  unfold t165
  delta q1 q72 q73 q71 q371
  rintro ⟨l, _⟩ hx hp
  try dsimp +instances only [dft_int, dft_sl, dft_str]
  simp only [true_and, and_true, eq_self_iff_true, implies_true, reduceCtorEq, false_implies, true_implies, decide_eq_true_eq, decide_eq_false_iff_not, beq_self_eq_true, Bool.not_eq_true', ne_eq, Decidable.not_not, List.nil_append, List.length_singleton, List.length_cons, List.length_nil, Nat.zero_add, Nat.add_zero, Nat.mul_one, and_self, beq_iff_eq, Bool.not_true, Bool.not_false, Bool.not_eq_false', Bool.cond_false_right, Bool.and_eq_true, imp_self, Bool.not_eq_true, Bool.cond_true_left, Bool.or_eq_true]
  rw [Bool.eq_iff_iff, digitD]
  simp only [Bool.and_eq_true, decide_eq_true_eq]
theorem h165 : c_host_digit.ok Tryz.prog GL 165 := con_ok (H := {}) (mkEnv_ok (gl := GL) (l := []) (q := []) (d := []) _ tyOk (by kernel_rfl) trivial trivial trivial) (by kernel_rfl) (by kernel_rfl) (Eq.mp e165 k165)
def t180 : Prop :=
  ∀ (x : q1), (q72 x) -> True -> True /\ (∀ (y : q4), (q41 y) -> y.1 = letterD x.1 -> (y.1 = false -> True) /\ (y.1 = false -> (y.1 == false) = true /\ True /\ (∀ (y : q4), (q41 y) -> y.1 =
  digitD x.1 -> (y.1 = false -> True) /\ (y.1 = false -> (y.1 == false) = true /\ True) /\ (y.1 = false -> (y.1 == false) = true) /\ (bif y.1 then true else decide (x.1 = (45 : Int))) =
  lcharD x.1) /\ True) /\ (y.1 = !false -> true = lcharD x.1)) /\ True
theorem e180 : t180 = Con.vc c_host_label_1 GL (mkEnv ty [(177, conSem c_host_letter), (165, conSem c_host_digit)] [] [] [0, 2]) {} Tryz.f180.ntmps Tryz.f180.results.toList (bodyOf Tryz.f180) := by kernel_rfl
theorem k180 : t180 := by
  unfold t180
  delta q1 q72 q4 q41 q371 wbZ
  rintro ⟨l, _⟩ hx hp
  try dsimp +instances only [dft_int, dft_sl, dft_str]
  simp only [true_and, and_true, eq_self_iff_true, implies_true, reduceCtorEq, false_implies, true_implies, decide_eq_true_eq, decide_eq_false_iff_not, beq_self_eq_true, Bool.not_eq_true', ne_eq, Decidable.not_not, List.nil_append, List.length_singleton, List.length_cons, List.length_nil, Nat.zero_add, Nat.add_zero, Nat.mul_one, and_self, beq_iff_eq, Bool.not_true, Bool.not_false, Bool.not_eq_false', Bool.cond_false_right, Bool.and_eq_true, imp_self, Bool.not_eq_true, Bool.cond_true_left, Bool.or_eq_true]
  rintro ⟨a, _⟩ _ ea
  simp only at ea ⊢
  subst ea
  refine ⟨fun h => ⟨h, ?_⟩, fun h => by rw [lcharD, h]; rfl⟩
  rintro ⟨b, _⟩ _ eb
  simp only at eb ⊢
  rw [lcharD, h, eb]; rfl
theorem h180 : c_host_label_1.ok Tryz.prog GL 180 := con_ok (H := {}) (mkEnv_ok (gl := GL) (l := [(177, conSem c_host_letter), (165, conSem c_host_digit)]) (q := []) (d := []) _ tyOk (by kernel_rfl) ⟨h177.call, h165.call, trivial⟩ trivial trivial) (by kernel_rfl) (by kernel_rfl) (Eq.mp e180 k180)
def t176 : Prop :=
  ∀ (x : q1), (q72 x) -> True -> True /\ (∀ (y : q4), (q41 y) -> y.1 = letterD x.1 -> (y.1 = false -> True) /\ (y.1 = false -> (y.1 == false) = true /\ True /\ (∀ (y : q4), (q41 y) -> y.1 =
  digitD x.1 -> (y.1 = false -> True) /\ (y.1 = false -> (y.1 == false) = true /\ True) /\ (y.1 = false -> True) /\ ((y.1 == false && y.1 == false) = true -> decide (x.1 ≠ q34) = true ->
  True) /\ ((y.1 == false && y.1 == false) = true -> decide (x.1 ≠ q34) = true -> (y.1 == false && y.1 == false && decide (x.1 ≠ q34) == true) = true /\ True /\ (∀ (y_1 : q1), (q30 y_1) ->
  y_1.1 = idxB (bs { data := #[(46 : UInt8), (95 : UInt8), (43 : UInt8), (45 : UInt8)] }) x.1 -> (y.1 = false -> True) /\ (y.1 = false -> (y.1 == false) = true) /\ (bif y.1 then true else
  decide (q33 y_1)) = mcharD x.1) /\ True) /\ ((y.1 == false && y.1 == false) = true -> decide (x.1 ≠ q34) = !true -> (y.1 = false -> True) /\ (y.1 = false -> (y.1 == false) = true) /\ (bif
  y.1 then true else false) = mcharD x.1) /\ ((y.1 == false && y.1 == false) = false -> (y.1 = false -> False) /\ (y.1 = !false -> true = mcharD x.1))) /\ True) /\ (y.1 = !false -> true =
  mcharD x.1)) /\ True
theorem e176 : t176 = Con.vc c_host_local_1 GL (mkEnv ty [(177, conSem c_host_letter), (165, conSem c_host_digit), (178, conSem c_strings_IndexByte)] [] [] [0, 2]) {} Tryz.f176.ntmps Tryz.f176.results.toList (bodyOf Tryz.f176) := by kernel_rfl
theorem k176 : t176 := by
  unfold t176
  delta q1 q72 q4 q41 q34 q30 q33 q371 wbZ wiZ q332
  rintro ⟨l, _⟩ hx hp
  try dsimp +instances only [dft_int, dft_sl, dft_str]
  simp only [true_and, and_true, eq_self_iff_true, implies_true, reduceCtorEq, false_implies, true_implies, decide_eq_true_eq, decide_eq_false_iff_not, beq_self_eq_true, Bool.not_eq_true', ne_eq, Decidable.not_not, List.nil_append, List.length_singleton, List.length_cons, List.length_nil, Nat.zero_add, Nat.add_zero, Nat.mul_one, and_self, beq_iff_eq, Bool.not_true, Bool.not_false, Bool.not_eq_false', Bool.cond_false_right, Bool.and_eq_true, imp_self, Bool.not_eq_true, Bool.cond_true_left, Bool.or_eq_true]
  have hb : bs { data := #[46, 95, 43, 45] } = [46, 95, 43, 45] := by decide
  have hi : decide (0 ≤ idxB [46, 95, 43, 45] l) = decide (l = 46 ∨ l = 95 ∨ l = 43 ∨ l = 45) := by
    refine decide_eq_decide.2 ((idxB_mem _ _).trans ?_)
    simp
  rw [hb]
  rintro ⟨a, _⟩ _ ea
  simp only at ea ⊢
  subst ea
  refine ⟨fun h => ⟨h, ?_⟩, fun h => by rw [mcharD, h]; rfl⟩
  rintro ⟨b, _⟩ _ eb
  simp only at eb ⊢
  refine ⟨fun h1 h2 => ⟨⟨h1, h2⟩, ?_⟩, fun h1 h2 => ?_, fun h1 => ⟨fun h2 => ?_, fun h2 => ?_⟩⟩
  . rintro ⟨c, _⟩ _ ec
    simp only at ec ⊢
    rw [mcharD, h, ← eb, h1, ec, hi]; rfl
  . subst h2
    rw [mcharD, h, ← eb, h1]; rfl
  . rw [h2] at h1; cases h1
  . rw [mcharD, h, ← eb, h2]; rfl
theorem h176 : c_host_local_1.ok Tryz.prog GL 176 := con_ok (H := {}) (mkEnv_ok (gl := GL) (l := [(177, conSem c_host_letter), (165, conSem c_host_digit), (178, conSem c_strings_IndexByte)]) (q := []) (d := []) _ tyOk (by kernel_rfl) ⟨h177.call, h165.call, h178.call, trivial⟩ trivial trivial) (by kernel_rfl) (by kernel_rfl) (Eq.mp e176 k176)
noncomputable def i164 : CallSem := vcFn (mkEnv ty [(180, conSem c_host_label_1), (176, conSem c_host_local_1), (165, conSem c_host_digit)] [] [] [0, 1, 4, 5, 7, 8, 9, 16]) {} Tryz.f164.ntmps Tryz.f164.results.toList (bodyOf Tryz.f164)
theorem i164_ok : CallOk Tryz.prog GL 164 i164 := inl_ok {} (mkEnv_ok (gl := GL) (l := [(180, conSem c_host_label_1), (176, conSem c_host_local_1), (165, conSem c_host_digit)]) (q := []) (d := []) _ tyOk (by kernel_rfl) ⟨h180.call, h176.call, h165.call, trivial⟩ trivial trivial) (by kernel_rfl) (by kernel_rfl)
def t163 : Prop :=
  ∀ (x : q5), (wsZ x.1 /\ True) -> List.length x.1 <= q95 -> (decide (q338 x) = false -> True) /\ (q87 x) /\ (q87 x) /\ (q88 x) /\ ((q180 x) = false -> True) /\ ((q180 x) = false -> (q179 x)
  = true /\ (q58 x) /\ True) /\ ((q180 x) = false -> (q179 x) = true /\ True) /\ ((q180 x) = false -> (q179 x) = true) /\ (q175 x) /\ (q175 x) /\ (q172 x) /\ (q172 x) /\ ((q178 x) = false ->
  (q176 x) = true /\ (q176 x) = true /\ (q34 <= wrZ ((lnZ x.1) - q334) /\ wrZ ((lnZ x.1) - q334) < (lnZ x.1)) /\ True) /\ (q172 x) /\ ((q178 x) = false -> (q176 x) = true) /\ ((q173 x) = true
  -> false = labelD x.1) /\ ((q173 x) = false -> ∃ (I : q7), ∃ (μ : q8), (q177 x I) /\ ∀ (y : q9) (z : Unit), (q74 y) -> True -> I y z -> (decide (y.1 < (lnZ x.1)) = true -> (q34 <= y.1 /\
  y.1 < (lnZ x.1)) /\ True /\ (∀ (y_1 : q4), (q41 y_1) -> y_1.1 = lcharD (List.getD x.1 (Int.toNat y.1) q34) -> ((!y_1.1) = true -> false = labelD x.1) /\ (q174 y_1 x I y μ z)) /\ True) /\
  (decide (y.1 < (lnZ x.1)) = false -> true = labelD x.1))
theorem e163 : t163 = Con.vc c_host_label GL (mkEnv ty [(164, i164)] [] [] [0, 2, 22]) {} Tryz.f163.ntmps Tryz.f163.results.toList (bodyOf Tryz.f163) := by kernel_rfl
theorem k163 : t163 := by
  unfold t163
  delta q5 wsZ q95 q338 q87 q88 q180 q179 q58 q175 q172 q178 q176 q34 wrZ lnZ q334 q173 q7 q8 q177 q9 q74 q4 q41 q174 q332 q390 q430 q421 wiZ wbZ
  rintro ⟨l, _⟩ hx hp
  have hp : l.length ≤ 1000000000 := hp
  try dsimp +instances only [dft_int, dft_sl, dft_str]
  simp only [true_and, and_true, eq_self_iff_true, implies_true, reduceCtorEq, false_implies, true_implies, decide_eq_true_eq, decide_eq_false_iff_not, beq_self_eq_true, Bool.not_eq_true', ne_eq, Decidable.not_not, List.nil_append, List.length_singleton, List.length_cons, List.length_nil, Nat.zero_add, Nat.add_zero, Nat.mul_one, and_self, beq_iff_eq, Bool.not_true, Bool.not_false, Bool.not_eq_false', Bool.cond_false_right, Bool.and_eq_true, imp_self, Bool.not_eq_true, Bool.cond_true_left, Bool.or_eq_true]
  rw [bs_nil]
  have hl0 : l = [] ↔ l.length = 0 := ⟨fun h => by rw [h]; rfl, List.eq_nil_of_length_eq_zero⟩
  have hw : IntKind.wrap .i64 ((l.length : Int) - 1) = l.length - 1 := wrapK _ (by omega) (by omega)
  have ht : ((l.length : Int) - 1).toNat = l.length - 1 := by omega
  rw [hw, ht]
  simp only [hl0, Bool.or_eq_false_iff, decide_eq_false_iff_not]
  refine ⟨fun h => ⟨h, by omega, by omega⟩, fun h => ⟨h, h, by omega, by omega⟩, fun h => ?_, fun h => ?_⟩
  . rw [labelD, decide_eq_false (fun hh => by rw [Ne, hl0] at hh; omega)]; rfl
  . have hl : labelD l = l.all lcharD := by
      rw [labelD, decide_eq_true (by rw [Ne, hl0]; omega)]; rfl
    rw [hl]
    refine ⟨fun y _ => 0 ≤ y.1 ∧ y.1 ≤ l.length ∧ ∀ j, j < y.1.toNat → lcharD (l.getD j 0) = true, fun y _ => ((l.length : Int) - y.1).toNat, ⟨by decide, by omega, fun j hj => by simp at hj⟩, ?_⟩
    rintro ⟨i, b, _⟩ _ _ ⟨i0, i1, i2⟩
    simp only at i0 i1 i2 ⊢
    have hw1 : IntKind.wrap .i64 (i + 1) = i + 1 := wrapK _ (by omega) (by omega)
    rw [hw1]
    refine ⟨fun hlt => ⟨⟨i0, hlt⟩, ?_⟩, fun hge => (all_get _ _ (fun j hj => i2 j (by omega))).symm⟩
    rintro ⟨c, _⟩ _ ec
    simp only at ec ⊢
    refine ⟨fun h => (all_not _ _ i.toNat (by omega) (ec.symm.trans h)).symm, fun h => ⟨⟨by omega, by omega, fun j hj => ?_⟩, by omega⟩⟩
    by_cases hji : j < i.toNat
    . exact i2 j hji
    . rw [show j = i.toNat by omega, ← ec]; exact h
theorem h163 : c_host_label.ok Tryz.prog GL 163 := con_ok (H := {}) (mkEnv_ok (gl := GL) (l := [(164, i164)]) (q := []) (d := []) _ tyOk (by kernel_rfl) ⟨i164_ok, trivial⟩ trivial trivial) (by kernel_rfl) (by kernel_rfl) (Eq.mp e163 k163)
def t161 : Prop :=
  ∀ (x : q5), (wsZ x.1 /\ True) -> List.length x.1 <= q95 -> (decide (q338 x) = false -> True) /\ (q87 x) /\ (q87 x) /\ (q88 x) /\ ((q187 x) = false -> True) /\ ((q187 x) = false -> (q186 x)
  = true /\ (q58 x) /\ True) /\ ((q187 x) = false -> (q186 x) = true /\ True) /\ ((q187 x) = false -> (q186 x) = true) /\ (q183 x) /\ (q183 x) /\ (q181 x) /\ (q181 x) /\ ((q185 x) = false ->
  (q184 x) = true /\ (q184 x) = true /\ (q34 <= wrZ ((lnZ x.1) - q334) /\ wrZ ((lnZ x.1) - q334) < (lnZ x.1)) /\ True) /\ (q181 x) /\ ((q185 x) = false -> (q184 x) = true) /\ ((q182 x) =
  false -> True) /\ ((q182 x) = false -> ((q182 x) == false) = true /\ List.length x.1 < q32 /\ (∀ (y : q4), (q41 y) -> y.1 = decide (q34 <= idxS x.1 (bs { data := #[(46 : UInt8), (46 :
  UInt8)] })) -> (y.1 = true -> false = localD x.1) /\ (y.1 = false -> ∃ (I : q7), ∃ (μ : q8), (q177 x I) /\ ∀ (y : q9) (z : Unit), (q74 y) -> True -> I y z -> (decide (y.1 < (lnZ x.1)) =
  true -> (q34 <= y.1 /\ y.1 < (lnZ x.1)) /\ True /\ (∀ (y_1 : q4), (q41 y_1) -> y_1.1 = mcharD (List.getD x.1 (Int.toNat y.1) q34) -> ((!y_1.1) = true -> false = localD x.1) /\ (q174 y_1 x I
  y μ z)) /\ True) /\ (decide (y.1 < (lnZ x.1)) = false -> true = localD x.1))) /\ True) /\ ((q182 x) = !false -> false = localD x.1)
theorem e161 : t161 = Con.vc c_host_local GL (mkEnv ty [(164, i164), (173, conSem c_strings_Contains)] [] [] [0, 2, 26]) {} Tryz.f161.ntmps Tryz.f161.results.toList (bodyOf Tryz.f161) := by kernel_rfl
theorem k161 : t161 := by
  unfold t161
  delta q5 wsZ q95 q338 q87 q88 q187 q186 q58 q183 q181 q185 q184 q34 wrZ lnZ q334 q182 q32 q4 q41 q7 q8 q177 q9 q74 q174 q332 q391 q430 q421 wbZ wiZ
  rintro ⟨l, _⟩ hx hp
  have hp : l.length ≤ 1000000000 := hp
  try dsimp +instances only [dft_int, dft_sl, dft_str]
  simp only [true_and, and_true, eq_self_iff_true, implies_true, reduceCtorEq, false_implies, true_implies, decide_eq_true_eq, decide_eq_false_iff_not, beq_self_eq_true, Bool.not_eq_true', ne_eq, Decidable.not_not, List.nil_append, List.length_singleton, List.length_cons, List.length_nil, Nat.zero_add, Nat.add_zero, Nat.mul_one, and_self, beq_iff_eq, Bool.not_true, Bool.not_false, Bool.not_eq_false', Bool.cond_false_right, Bool.and_eq_true, imp_self, Bool.not_eq_true, Bool.cond_true_left, Bool.or_eq_true]
  have hb : bs { data := #[46, 46] } = [46, 46] := by decide
  rw [bs_nil, hb, idxS_dots]
  have hl0 : l = [] ↔ l.length = 0 := ⟨fun h => by rw [h]; rfl, List.eq_nil_of_length_eq_zero⟩
  have hw : IntKind.wrap .i64 ((l.length : Int) - 1) = l.length - 1 := wrapK _ (by omega) (by omega)
  have ht : ((l.length : Int) - 1).toNat = l.length - 1 := by omega
  rw [hw, ht]
  simp only [hl0, Bool.or_eq_false_iff, decide_eq_false_iff_not]
  refine ⟨fun h => ⟨h, by omega, by omega⟩, fun h => ⟨h, h, by omega, by omega⟩, fun h => ⟨h, by omega, ?_⟩, fun h => ?_⟩
  . rintro ⟨a, _⟩ _ ea
    simp only at ea ⊢
    have hl : localD l = (!dotsD l && l.all mcharD) := by
      rw [localD, decide_eq_true (by rw [Ne, hl0]; omega)]; rfl
    rw [hl, ← ea]
    refine ⟨fun h => by rw [h]; rfl, fun h => ?_⟩
    rw [h]
    show ∃ I μ, _
    refine ⟨fun y _ => 0 ≤ y.1 ∧ y.1 ≤ l.length ∧ ∀ j, j < y.1.toNat → mcharD (l.getD j 0) = true, fun y _ => ((l.length : Int) - y.1).toNat, ⟨by decide, by omega, fun j hj => by simp at hj⟩, ?_⟩
    rintro ⟨i, b, _⟩ _ _ ⟨i0, i1, i2⟩
    simp only at i0 i1 i2 ⊢
    have hw1 : IntKind.wrap .i64 (i + 1) = i + 1 := wrapK _ (by omega) (by omega)
    rw [hw1]
    refine ⟨fun hlt => ⟨⟨i0, hlt⟩, ?_⟩, fun hge => (all_get _ _ (fun j hj => i2 j (by omega))).symm⟩
    rintro ⟨c, _⟩ _ ec
    simp only at ec ⊢
    refine ⟨fun h => (all_not _ _ i.toNat (by omega) (ec.symm.trans h)).symm, fun h => ⟨⟨by omega, by omega, fun j hj => ?_⟩, by omega⟩⟩
    by_cases hji : j < i.toNat
    . exact i2 j hji
    . rw [show j = i.toNat by omega, ← ec]; exact h
  . rw [localD, decide_eq_false (fun hh => by rw [Ne, hl0] at hh; omega)]; rfl
theorem h161 : c_host_local.ok Tryz.prog GL 161 := con_ok (H := {}) (mkEnv_ok (gl := GL) (l := [(164, i164), (173, conSem c_strings_Contains)]) (q := []) (d := []) _ tyOk (by kernel_rfl) ⟨i164_ok, h173.call, trivial⟩ trivial trivial) (by kernel_rfl) (by kernel_rfl) (Eq.mp e161 k161)
noncomputable def i179 : CallSem → CallSem := vcSeq (mkEnv ty [(160, conSem c_strings_Cut)] [] [] [0, 1, 3, 4, 5, 17]) {} Tryz.f179.ntmps Tryz.f179.results.toList (bodyOf Tryz.f179)
theorem i179_ok : SeqOk Tryz.prog GL 179 i179 := seq_ok {} (mkEnv_ok (gl := GL) (l := [(160, conSem c_strings_Cut)]) (q := []) (d := []) _ tyOk (by kernel_rfl) ⟨h160.call, trivial⟩ trivial trivial) (by kernel_rfl) (by kernel_rfl)
noncomputable def i162 : CallSem := vcFn (mkEnv ty [] [] [] [0, 1, 2]) {} Tryz.f162.ntmps Tryz.f162.results.toList (bodyOf Tryz.f162)
theorem i162_ok : CallOk Tryz.prog GL 162 i162 := inl_ok {} (mkEnv_ok (gl := GL) (l := []) (q := []) (d := []) _ tyOk (by kernel_rfl) trivial trivial trivial) (by kernel_rfl) (by kernel_rfl)
def t131 : Prop :=
  ∀ (x : q5), (wsZ x.1 /\ True) -> List.length x.1 <= q95 -> q36 <= q61 /\ (decide ((253 : Int) < (lnZ x.1)) = true -> false = dnsD x.1) /\ (decide ((253 : Int) < (lnZ x.1)) = false -> q36 <=
  q61 /\ List.length [SV.dat Kd.str x.1] <= q61 /\ (List.length x.1 < q32 /\ List.length q190 = q36) /\ (∀ (y : q3), (wsZ y.1 /\ wsZ y.2.1 /\ wbZ y.2.2.1 /\ True) -> y.1 = (q189 x).1 /\ y.2.1
  = (q189 x).2.1 /\ y.2.2.1 = (q189 x).2.2 -> ∃ (I : Bool × List Int × List Int × Unit -> (Bool × Unit) × q126 × q126 × Unit -> Prop), ∃ (μ : Bool × List Int × List Int × Unit -> (Bool ×
  Unit) × q126 × q126 × Unit -> Nat), (Value.bool false = Value.bool false /\ x.1 = x.1 /\ I (y.2.2.1, y.2.1, y.1, ()) ((false, ()), (bs { data := #[] }, ()), (x.1, ()), ())) /\ ∀ (y : Bool ×
  List Int × List Int × Unit) (z : q19), (wbZ y.1 /\ wsZ y.2.1 /\ wsZ y.2.2.1 /\ True) -> (wbZ z.1.1 /\ True) /\ (wsZ z.2.1.1 /\ True) /\ (wsZ z.2.2.1.1 /\ True) /\ True -> I y z ->
  List.length y.2.2.1 <= q95 /\ (∀ (y_1 : q4), (q41 y_1) -> y_1.1 = labelD y.2.2.1 -> ((!y_1.1) = true -> false = dnsD x.1) /\ ((!y_1.1) = false -> (y.1 = true -> (List.length y.2.1 < q32 /\
  List.length q190 = q36) /\ (∀ (y_2 : q3), (wsZ y_2.1 /\ wsZ y_2.2.1 /\ wbZ y_2.2.2.1 /\ True) -> y_2.1 = (q188 y).1 /\ y_2.2.1 = (q188 y).2.1 /\ y_2.2.2.1 = (q188 y).2.2 -> Value.bool false
  = Value.bool false /\ x.1 = x.1 /\ I (y_2.2.2.1, y_2.2.1, y_2.1, ()) ((z.1.1, ()), (y.2.2.1, ()), (z.2.2.1.1, ()), ()) /\ μ (y_2.2.2.1, y_2.2.1, y_2.1, ()) ((z.1.1, ()), (y.2.2.1, ()),
  (z.2.2.1.1, ()), ()) < μ y z) /\ True) /\ (y.1 = false -> ∃ (I : Int × Bool × Unit -> (Bool × Unit) × q126 × q126 × Unit -> Prop), ∃ (μ : Int × Bool × Unit -> (Bool × Unit) × q126 × q126 ×
  Unit -> Nat), ((lnZ y.2.2.1) = (lnZ y.2.2.1) /\ y.2.2.1 = y.2.2.1 /\ y.2.2.1 = y.2.2.1 /\ Value.bool false = Value.bool false /\ x.1 = x.1 /\ I (q34, false, ()) ((z.1.1, ()), (y.2.2.1, ()),
  (z.2.2.1.1, ()), ())) /\ ∀ (y_2 : q9) (z : q19), (q74 y_2) -> (wbZ z.1.1 /\ True) /\ (wsZ z.2.1.1 /\ True) /\ (wsZ z.2.2.1.1 /\ True) /\ True -> I y_2 z -> (decide (y_2.1 < (lnZ y.2.2.1)) =
  true -> (q34 <= y_2.1 /\ y_2.1 < (lnZ y.2.2.1)) /\ True /\ (∀ (y_3 : q4), (q41 y_3) -> y_3.1 = digitD (List.getD y.2.2.1 (Int.toNat y_2.1) q34) -> ((!y_3.1) = true -> (!false) = dnsD x.1)
  /\ ((!y_3.1) = false -> (lnZ y.2.2.1) = (lnZ y.2.2.1) /\ y.2.2.1 = y.2.2.1 /\ y.2.2.1 = y.2.2.1 /\ Value.bool false = Value.bool false /\ x.1 = x.1 /\ I (wrZ (y_2.1 + q334), y_2.2.1, ())
  ((z.1.1, ()), (z.2.1.1, ()), (z.2.2.1.1, ()), ()) /\ μ (wrZ (y_2.1 + q334), y_2.2.1, ()) ((z.1.1, ()), (z.2.1.1, ()), (z.2.2.1.1, ()), ()) < μ y_2 z)) /\ True) /\ (decide (y_2.1 < (lnZ
  y.2.2.1)) = false -> (!true) = dnsD x.1)))) /\ True) /\ True)
theorem e131 : t131 = Con.vc c_host_DNS GL (mkEnv ty [(162, i162), (163, conSem c_host_label), (164, i164)] [(179, i179)] [] [0, 2, 3, 4, 7, 9, 10, 13]) {} Tryz.f131.ntmps Tryz.f131.results.toList (bodyOf Tryz.f131) := by kernel_rfl
theorem k131 : t131 := by
  unfold t131
  delta q5 wsZ q95 q36 q61 lnZ q32 q190 q3 wbZ q189 q126 q19 q4 q41 q188 q34 q9 q74 wrZ q334 q347 q332 wiZ
  rintro ⟨l, _⟩ hx hp
  have hp : l.length ≤ 1000000000 := hp
  try dsimp +instances only [dft_int, dft_sl, dft_str]
  simp only [true_and, and_true, eq_self_iff_true, implies_true, reduceCtorEq, false_implies, true_implies, decide_eq_true_eq, decide_eq_false_iff_not, beq_self_eq_true, Bool.not_eq_true', ne_eq, Decidable.not_not, List.nil_append, List.length_singleton, List.length_cons, List.length_nil, Nat.zero_add, Nat.add_zero, Nat.mul_one, and_self, beq_iff_eq, Bool.not_true, Bool.not_false, Bool.not_eq_false', Bool.cond_false_right, Bool.and_eq_true, imp_self, Bool.not_eq_true, Bool.cond_true_left, Bool.or_eq_true]
  have hb : bs { data := #[46] } = [46] := by decide
  have hd : ([46] : List Int).getD 0 0 = 46 := rfl
  rw [hb, hd, bs_nil]
  refine ⟨by decide, fun h => (dns_long (by omega)).symm, fun hn => ⟨by decide, by decide, ⟨by omega, rfl⟩, ?_⟩⟩
  rintro ⟨wd, rest, more, _⟩ _ ⟨e1, e2, e3⟩
  simp only at e1 e2 e3 ⊢
  have hcl := cutD_len l 46
  refine ⟨fun y _ => y.2.2.1.length ≤ l.length ∧ y.2.1.length ≤ l.length ∧ ∃ P, P.all labelD = true ∧ labelsD l = P ++ (y.2.2.1 :: if y.1 then labelsD y.2.1 else []), fun y _ => if y.1 then y.2.1.length + 1 else 0,
    ⟨by rw [e1]; exact hcl.1, by rw [e2]; exact hcl.2, [], rfl, by rw [e1, e2, e3]; exact labels_cut l⟩, ?_⟩
  rintro ⟨mo, re, w, _⟩ ⟨⟨z1, _⟩, ⟨z2, _⟩, ⟨z3, _⟩, _⟩ _ _ ⟨w1, w2, P, hP, hW⟩
  simp only at w1 w2 hW ⊢
  refine ⟨by omega, ?_⟩
  rintro ⟨b, _⟩ _ eb
  simp only at eb ⊢
  refine ⟨fun h => (dns_bad (w := w) (by rw [hW]; simp) (eb.symm.trans h)).symm, fun h => ⟨fun hm => ⟨⟨by omega, rfl⟩, ?_⟩, fun hm => ?_⟩⟩
  . rintro ⟨wd', re', mo', _⟩ _ ⟨f1, f2, f3⟩
    simp only at f1 f2 f3 ⊢
    have hcl := cutD_len re 46
    have hj := congrArg List.length (cutD_join re 46)
    rw [← f1, ← f2, ← f3] at hj
    rw [← f1, ← f2] at hcl
    refine ⟨⟨by omega, by omega, P ++ [w], ?_, ?_⟩, ?_⟩
    . rw [List.all_append, hP]
      simp [← eb, h]
    . rw [hW, hm, f1, f2, f3]
      simp only [if_true]
      rw [labels_cut re, List.append_assoc]
      rfl
    . rw [hm]
      simp only [if_true]
      split
      . rename_i hmo
        rw [hmo] at hj
        simp at hj
        omega
      . omega
  . have hWe : labelsD l = P ++ [w] := by rw [hW, hm]; rfl
    have hdn : dnsD l = !w.all digitD := by
      rw [dns_last (by omega) (by rw [hWe, List.all_append, hP]; simp [← eb, h]), hWe, last_snoc]
    rw [hdn]
    refine ⟨fun y _ => 0 ≤ y.1 ∧ y.1 ≤ w.length ∧ ∀ j, j < y.1.toNat → digitD (w.getD j 0) = true, fun y _ => ((w.length : Int) - y.1).toNat, ⟨Int.le_refl 0, by simp only; omega, fun j hj => by simp at hj⟩, ?_⟩
    rintro ⟨i, b2, _⟩ z _ _ ⟨i0, i1, i2⟩
    simp only at i0 i1 i2 ⊢
    have hw1 : IntKind.wrap .i64 (i + 1) = i + 1 := wrapK _ (by omega) (by omega)
    rw [hw1]
    refine ⟨fun hlt => ⟨⟨i0, hlt⟩, ?_⟩, fun hge => by rw [all_get _ _ (fun j hj => i2 j (by omega))]; rfl⟩
    rintro ⟨c, _⟩ _ ec
    simp only at ec ⊢
    refine ⟨fun h => by rw [all_not _ _ i.toNat (by omega) (ec.symm.trans h)]; rfl, fun h => ⟨⟨by omega, by omega, fun j hj => ?_⟩, by omega⟩⟩
    by_cases hji : j < i.toNat
    . exact i2 j hji
    . rw [show j = i.toNat by omega, ← ec]; exact h
theorem h131 : c_host_DNS.ok Tryz.prog GL 131 := con_ok (H := {}) (mkEnv_ok (gl := GL) (l := [(162, i162), (163, conSem c_host_label), (164, i164)]) (q := [(179, i179)]) (d := []) _ tyOk (by kernel_rfl) ⟨i162_ok, h163.call, i164_ok, trivial⟩ ⟨i179_ok, trivial⟩ trivial) (by kernel_rfl) (by kernel_rfl) (Eq.mp e131 k131)
def t146 : Prop :=
  ∀ (x : q5), (wsZ x.1 /\ True) -> List.length x.1 <= q95 -> True /\ (∀ (y : List Int × Bool × Unit), (wsZ y.1 /\ wbZ y.2.1 /\ True) -> (y.1 = if hasP q192 x.1 = true then List.drop
  (List.length q192) x.1 else x.1) /\ y.2.1 = hasP q192 x.1 -> (y.2.1 = true -> True) /\ (y.2.1 = true -> (y.2.1 == true) = true /\ True) /\ (y.2.1 = true -> (y.2.1 == true) = true /\ True)
  /\ (y.2.1 = true -> (y.2.1 == true) = true) /\ ((q191 y x) = true -> True) /\ ((q191 y x) = true -> ((q191 y x) == true) = true /\ List.length y.1 < q32 /\ (∀ (y_1 : q4), (q41 y_1) -> y_1.1
  = decide (q34 <= idxS y.1 q190) -> (q193 y_1) /\ (y_1.1 = true -> (y_1.1 == true) = true /\ List.length y.1 <= q95 /\ (∀ (y_2 : q4), (q41 y_2) -> y_2.1 = dnsD y.1 -> y_2.1 = wildD x.1) /\
  True) /\ (y_1.1 = !true -> false = wildD x.1)) /\ True) /\ ((q191 y x) = !true -> false = wildD x.1)) /\ True
theorem e146 : t146 = Con.vc c_host_Wild GL (mkEnv ty [(172, conSem c_strings_CutPrefix), (173, conSem c_strings_Contains), (131, conSem c_host_DNS)] [] [] [0, 2, 3, 4]) {} Tryz.f146.ntmps Tryz.f146.results.toList (bodyOf Tryz.f146) := by kernel_rfl
theorem k146 : t146 := by
  unfold t146
  delta q5 wsZ q95 wbZ q192 q191 q32 q4 q41 q34 q190 q193 lnZ
  rintro ⟨l, _⟩ hx hp
  have hp : l.length ≤ 1000000000 := hp
  try dsimp +instances only [dft_int, dft_sl, dft_str]
  simp only [true_and, and_true, eq_self_iff_true, implies_true, reduceCtorEq, false_implies, true_implies, decide_eq_true_eq, decide_eq_false_iff_not, beq_self_eq_true, Bool.not_eq_true', ne_eq, Decidable.not_not, List.nil_append, List.length_singleton, List.length_cons, List.length_nil, Nat.zero_add, Nat.add_zero, Nat.mul_one, and_self, beq_iff_eq, Bool.not_true, Bool.not_false, Bool.not_eq_false', Bool.cond_false_right, Bool.and_eq_true, imp_self, Bool.not_eq_true, Bool.cond_true_left, Bool.or_eq_true]
  have hb : bs { data := #[46] } = [46] := by decide
  have hb2 : bs { data := #[42, 46] } = [42, 46] := by decide
  rw [hb, hb2]
  rintro ⟨a, b, _⟩ _ ⟨ea, eb⟩
  simp only at ea eb ⊢
  have hal : a.length ≤ l.length := by rw [ea]; split <;> simp
  refine ⟨fun h => ⟨h, by omega, ?_⟩, fun h => ?_⟩
  . have hh : hasP [42, 46] l = true := eb.symm.trans h.1
    rw [if_pos hh] at ea
    have ea : a = l.drop 2 := ea
    rintro ⟨c, _⟩ _ ec
    simp only at ec ⊢
    rw [contains_one, ea] at ec
    have hwd : wildD l = (c && dnsD a) := by
      rw [wildD, hh, decide_eq_true (show l.length ≤ 253 by omega), ← ec, ← ea]; rfl
    rw [hwd]
    refine ⟨fun hc => ⟨hc, by omega, ?_⟩, fun hc => by rw [hc]; rfl⟩
    rintro ⟨d, _⟩ _ ed
    simp only at ed ⊢
    rw [hc, ed]; rfl
  . rw [eb] at h
    rw [wildD, ← Bool.and_assoc, show decide (l.length ≤ 253) = decide ((l.length : Int) ≤ 253) from decide_eq_decide.2 (by omega), h]; rfl
theorem h146 : c_host_Wild.ok Tryz.prog GL 146 := con_ok (H := {}) (mkEnv_ok (gl := GL) (l := [(172, conSem c_strings_CutPrefix), (173, conSem c_strings_Contains), (131, conSem c_host_DNS)]) (q := []) (d := []) _ tyOk (by kernel_rfl) ⟨h172.call, h173.call, h131.call, trivial⟩ trivial trivial) (by kernel_rfl) (by kernel_rfl) (Eq.mp e146 k146)
def t130 : Prop :=
  ∀ (x : q5), (wsZ x.1 /\ True) -> List.length x.1 <= q95 -> (List.length x.1 < q32 /\ List.length (bs { data := #[(64 : UInt8)] }) = q36) /\ (∀ (y : q3), (wsZ y.1 /\ wsZ y.2.1 /\ wbZ y.2.2.1
  /\ True) -> y.1 = (q194 x).1 /\ y.2.1 = (q194 x).2.1 /\ y.2.2.1 = (q194 x).2.2 -> (y.2.2.1 = true -> True) /\ (y.2.2.1 = true -> (y.2.2.1 == true) = true /\ List.length y.1 <= q95 /\ (∀
  (y_1 : q4), (q41 y_1) -> y_1.1 = localD y.1 -> (q193 y_1) /\ (y_1.1 = true -> (y_1.1 == true) = true /\ List.length y.2.1 <= q95 /\ (∀ (y_2 : q4), (q41 y_2) -> y_2.1 = dnsD y.2.1 -> y_2.1 =
  emailD x.1) /\ True) /\ (y_1.1 = !true -> false = emailD x.1)) /\ True) /\ (y.2.2.1 = !true -> false = emailD x.1)) /\ True
theorem e130 : t130 = Con.vc c_host_Email GL (mkEnv ty [(160, conSem c_strings_Cut), (161, conSem c_host_local), (131, conSem c_host_DNS)] [] [] [0, 2, 3, 4, 5]) {} Tryz.f130.ntmps Tryz.f130.results.toList (bodyOf Tryz.f130) := by kernel_rfl
theorem k130 : t130 := by
  unfold t130
  delta q5 wsZ q95 q32 q36 q3 wbZ q194 q4 q41 q193 q347 q332
  rintro ⟨l, _⟩ hx hp
  have hp : l.length ≤ 1000000000 := hp
  try dsimp +instances only [dft_int, dft_sl, dft_str]
  simp only [true_and, and_true, eq_self_iff_true, implies_true, reduceCtorEq, false_implies, true_implies, decide_eq_true_eq, decide_eq_false_iff_not, beq_self_eq_true, Bool.not_eq_true', ne_eq, Decidable.not_not, List.nil_append, List.length_singleton, List.length_cons, List.length_nil, Nat.zero_add, Nat.add_zero, Nat.mul_one, and_self, beq_iff_eq, Bool.not_true, Bool.not_false, Bool.not_eq_false', Bool.cond_false_right, Bool.and_eq_true, imp_self, Bool.not_eq_true, Bool.cond_true_left, Bool.or_eq_true]
  have hb : bs { data := #[64] } = [64] := by decide
  have hd : ([64] : List Int).getD 0 0 = 64 := rfl
  rw [hb, hd]
  have hcl := cutD_len l 64
  refine ⟨⟨by omega, rfl⟩, ?_⟩
  rintro ⟨a, b, c, _⟩ _ ⟨ea, eb, ec⟩
  simp only at ea eb ec ⊢
  have he : emailD l = (c && (localD a && dnsD b)) := by rw [emailD, ea, eb, ec]
  rw [he]
  rw [← ea, ← eb] at hcl
  refine ⟨fun h => ⟨h, by omega, ?_⟩, fun h => by rw [h]; rfl⟩
  rintro ⟨u, _⟩ _ eu
  simp only at eu ⊢
  rw [h, ← eu]
  refine ⟨fun h => ⟨h, by omega, ?_⟩, fun h => by rw [h]; rfl⟩
  rintro ⟨v, _⟩ _ ev
  simp only at ev ⊢
  rw [h, ev]; rfl
theorem h130 : c_host_Email.ok Tryz.prog GL 130 := con_ok (H := {}) (mkEnv_ok (gl := GL) (l := [(160, conSem c_strings_Cut), (161, conSem c_host_local), (131, conSem c_host_DNS)]) (q := []) (d := []) _ tyOk (by kernel_rfl) ⟨h160.call, h161.call, h131.call, trivial⟩ trivial trivial) (by kernel_rfl) (by kernel_rfl) (Eq.mp e130 k130)
def t148 : Prop :=
  ∀ (x : q5), (wsZ x.1 /\ True) -> True -> (decide ((lnZ x.1) = q64) = false -> True) /\ (decide ((lnZ x.1) = q64) = false -> (decide ((lnZ x.1) = q64) == false) = true /\ True) /\ (decide
  ((lnZ x.1) = q64) = false -> (decide ((lnZ x.1) = q64) == false) = true /\ True) /\ (decide ((lnZ x.1) = q64) = false -> (decide ((lnZ x.1) = q64) == false) = true) /\ (bif decide ((lnZ
  x.1) = q64) then true else decide ((lnZ x.1) = (16 : Int))) = ipD x.1
theorem e148 : t148 = Con.vc c_host_IP GL (mkEnv ty [] [] [] [0, 2]) {} Tryz.f148.ntmps Tryz.f148.results.toList (bodyOf Tryz.f148) := by kernel_rfl
theorem k148 : t148 := by
  unfold t148
  delta q5 wsZ lnZ q64
  rintro ⟨l, _⟩ hx hp
  try dsimp +instances only [dft_int, dft_sl, dft_str]
  simp only [true_and, and_true, eq_self_iff_true, implies_true, reduceCtorEq, false_implies, true_implies, decide_eq_true_eq, decide_eq_false_iff_not, beq_self_eq_true, Bool.not_eq_true', ne_eq, Decidable.not_not, List.nil_append, List.length_singleton, List.length_cons, List.length_nil, Nat.zero_add, Nat.add_zero, Nat.mul_one, and_self, beq_iff_eq, Bool.not_true, Bool.not_false, Bool.not_eq_false', Bool.cond_false_right, Bool.and_eq_true, imp_self, Bool.not_eq_true, Bool.cond_true_left, Bool.or_eq_true]
  rw [Bool.eq_iff_iff, ipD]
  simp only [Bool.or_eq_true, decide_eq_true_eq]
  omega
theorem h148 : c_host_IP.ok Tryz.prog GL 148 := con_ok (H := {}) (mkEnv_ok (gl := GL) (l := []) (q := []) (d := []) _ tyOk (by kernel_rfl) trivial trivial trivial) (by kernel_rfl) (by kernel_rfl) (Eq.mp e148 k148)
end Go.Proofs.YtiofbnlbfmbodaaGreatDoor
end
