/- Texts of a verified walk, led together: HostA, HostW, HostmA, HostmW. -/
import Derived.Test.YtgnlcpoeepfdoaaGreatDoorZW06
import Derived.Test.YtgnlcpoeepfdoaaGreatDoorZV12
set_option linter.unusedVariables false
set_option linter.unusedSimpArgs false
section
namespace Go.Proofs.YtgnlcpoeepfdoaaGreatDoor
open Go Go.Vc Go.Pl Go.Proofs
def c_host_letter : Con := { args := [.dat U8], res := [.dat .bool], pre := fun _ => True, post := fun x y => y.1 = letterD x.1 }
def c_host_digit : Con := { args := [.dat U8], res := [.dat .bool], pre := fun _ => True, post := fun x y => y.1 = digitD x.1 }
def c_host_label_1 : Con := { args := [.dat U8], res := [.dat .bool], pre := fun _ => True, post := fun x y => y.1 = lcharD x.1 }
def c_host_local_1 : Con := { args := [.dat U8], res := [.dat .bool], pre := fun _ => True, post := fun x y => y.1 = mcharD x.1 }
def c_host_label : Con := { args := [.dat .str], res := [.dat .bool], pre := fun x => x.1.length ≤ 1000000000, post := fun x y => y.1 = labelD x.1 }
def c_host_local : Con := { args := [.dat .str], res := [.dat .bool], pre := fun x => x.1.length ≤ 1000000000, post := fun x y => y.1 = localD x.1 }
def c_host_DNS : Con := { args := [.dat .str], res := [.dat .bool], pre := fun x => x.1.length ≤ 1000000000, post := fun x y => y.1 = dnsD x.1 }
def c_host_Wild : Con := { args := [.dat .str], res := [.dat .bool], pre := fun x => x.1.length ≤ 1000000000, post := fun x y => y.1 = wildD x.1 }
def c_host_Email : Con := { args := [.dat .str], res := [.dat .bool], pre := fun x => x.1.length ≤ 1000000000, post := fun x y => y.1 = emailD x.1 }
def c_host_IP : Con := { args := [.dat .str], res := [.dat .bool], pre := fun _ => True, post := fun x y => y.1 = ipD x.1 }
end Go.Proofs.YtgnlcpoeepfdoaaGreatDoor
end
section
namespace Go.Proofs.YtgnlcpoeepfdoaaGreatDoor
open Go Go.Vc Go.Pl Go.Proofs
set_option linter.unusedVariables false
set_option linter.unusedSimpArgs false
abbrev q17 := ((Bool × Unit) × (List Int × Unit) × (List Int × Unit) × Unit)
abbrev q281 (p0 : q1) := (bif decide ((97 : Int) <= p0.1) then decide (p0.1 <= (122 : Int)) else false)
abbrev q150 (p0 : q1) := ((q281 p0) == false && (q281 p0) == false && decide (q237 <= p0.1) == true)
abbrev q151 (p0 : q1) := ((q281 p0) == false && (q281 p0) == false)
abbrev q282 (p0 : q6) := (bif bif decide (p0.1 = bs { data := #[] }) then true else decide ((63 : Int) < (lnZ p0.1)) then true else decide (List.getD p0.1 (0 : Nat) q308 = (45 : Int)))
abbrev q152 (p0 : q6) := ((q282 p0) = false -> ((q282 p0) == false) = true /\ True)
abbrev q153 (p0 : q6) := (bif bif bif decide (q245 p0) then true else decide ((63 : Int) < (lnZ p0.1)) then true else decide (List.getD p0.1 (0 : Nat) q308 = (45 : Int)) then true else
  decide (List.getD p0.1 (Int.toNat (wrZ ((lnZ p0.1) - q240))) q236 = (45 : Int)))
abbrev q154 (p0 : q4) (p1 : q6) (p2 : q8) (p3 : q10) (p4 : q9) (p5 : Unit) := ((!p0.1) = false -> (lnZ p1.1) = (lnZ p1.1) /\ p1.1 = p1.1 /\ p1.1 = p1.1 /\ Value.bool false = Value.bool
  false /\ Value.bool false = Value.bool false /\ p1.1 = p1.1 /\ p2 (wrZ (p3.1 + q240), p3.2.1, ()) () /\ p4 (wrZ (p3.1 + q240), p3.2.1, ()) () < p4 p3 p5)
abbrev q155 (p0 : q6) := ((q282 p0) = false -> True)
abbrev q156 (p0 : q6) := ((q282 p0) == false)
abbrev q157 (p0 : q6) (p1 : q8) := ((lnZ p0.1) = (lnZ p0.1) /\ p0.1 = p0.1 /\ p0.1 = p0.1 /\ Value.bool false = Value.bool false /\ Value.bool false = Value.bool false /\ p0.1 = p0.1 /\ p1
  (q236, false, ()) ())
abbrev q158 (p0 : q6) := (bif bif decide (q245 p0) then true else decide ((63 : Int) < (lnZ p0.1)) then true else decide (List.getD p0.1 (0 : Nat) q308 = (45 : Int)))
abbrev q159 (p0 : q6) := ((bif decide (q245 p0) then true else decide ((63 : Int) < (lnZ p0.1))) == false)
abbrev q160 (p0 : q6) := (bif decide (q245 p0) then true else decide ((63 : Int) < (lnZ p0.1)))
abbrev q283 (p0 : q6) := (bif bif decide (p0.1 = bs { data := #[] }) then true else decide ((64 : Int) < (lnZ p0.1)) then true else decide (List.getD p0.1 (0 : Nat) q308 = (46 : Int)))
abbrev q161 (p0 : q6) := ((q283 p0) = false -> ((q283 p0) == false) = true /\ True)
abbrev q162 (p0 : q6) := (bif bif bif decide (q245 p0) then true else decide ((64 : Int) < (lnZ p0.1)) then true else decide (List.getD p0.1 (0 : Nat) q308 = (46 : Int)) then true else
  decide (List.getD p0.1 (Int.toNat (wrZ ((lnZ p0.1) - q240))) q236 = (46 : Int)))
abbrev q163 (p0 : q6) := ((q283 p0) = false -> True)
abbrev q164 (p0 : q6) := ((q283 p0) == false)
abbrev q165 (p0 : q6) := (bif bif decide (q245 p0) then true else decide ((64 : Int) < (lnZ p0.1)) then true else decide (List.getD p0.1 (0 : Nat) q308 = (46 : Int)))
abbrev q166 (p0 : q6) := ((bif decide (q245 p0) then true else decide ((64 : Int) < (lnZ p0.1))) == false)
abbrev q167 (p0 : q6) := (bif decide (q245 p0) then true else decide ((64 : Int) < (lnZ p0.1)))
abbrev q168 (p0 : Bool × List Int × List Int × Unit) := (cutD (List.getD (bs { data := #[(46 : UInt8)] }) q252 q236) p0.2.1)
abbrev q169 (p0 : q6) := (cutD (List.getD (bs { data := #[(46 : UInt8)] }) q252 q236) p0.1)
abbrev q170 := (bs { data := #[(46 : UInt8)] })
abbrev q171 (p0 : q5) (p1 : q6) := (bif p0.2.1 then decide ((lnZ p1.1) <= (253 : Int)) else false)
abbrev q172 := (bs { data := #[(42 : UInt8), (46 : UInt8)] })
abbrev q284 := (List.getD (bs { data := #[(64 : UInt8)] }) (0 : Nat) q308)
abbrev q173 (p0 : q6) := (cutD q284 p0.1)
def t78 : Prop :=
  ∀ (x : q1), (q76 x) -> True -> (decide ((97 : Int) <= x.1) = true -> True) /\ (decide ((97 : Int) <= x.1) = true -> (decide ((97 : Int) <= x.1) == true) = true /\ True) /\ (decide ((97 :
  Int) <= x.1) = true -> (decide ((97 : Int) <= x.1) == true) = true) /\ ((q77 x) = false -> True) /\ ((q77 x) = false -> ((q77 x) == false) = true /\ True) /\ ((q77 x) = false -> True) /\
  ((q151 x) = true -> decide (q237 <= x.1) = true -> True) /\ ((q151 x) = true -> decide (q237 <= x.1) = true -> (q150 x) = true /\ True) /\ ((q77 x) = false -> (q151 x) = true /\ (decide
  (q237 <= x.1) = true -> (q150 x) = true) /\ True) /\ ((q77 x) = false -> ((q77 x) == false) = true) /\ (bif bif decide ((97 : Int) <= x.1) then decide (x.1 <= (122 : Int)) else false then
  true else bif decide (q237 <= x.1) then decide (x.1 <= (90 : Int)) else false) = letterD x.1
theorem e78 : t78 = Con.vc c_host_letter GL (mkEnv ty [] [] [] [0, 2]) {} Tryz.f78.ntmps Tryz.f78.results.toList (bodyOf Tryz.f78) := by kernel_rfl
theorem k78 : t78 := by
  unfold t78
  delta q1 q76 q77 q151 q237 q150 q298 q281
  rintro ⟨l, _⟩ hx hp
  try dsimp +instances only [dft_int, dft_sl, dft_str]
  simp only [true_and, and_true, eq_self_iff_true, implies_true, reduceCtorEq, false_implies, true_implies, decide_eq_true_eq, decide_eq_false_iff_not, beq_self_eq_true, Bool.not_eq_true', ne_eq, Decidable.not_not, List.nil_append, List.length_singleton, List.length_cons, List.length_nil, Nat.zero_add, Nat.add_zero, Nat.mul_one, and_self, beq_iff_eq, Bool.not_true, Bool.not_false, Bool.not_eq_false', Bool.cond_false_right, Bool.and_eq_true, imp_self, Bool.not_eq_true, Bool.cond_true_left, Bool.or_eq_true]
  refine ⟨fun h h2 => ⟨h, h2⟩, fun h => ⟨h, fun h2 => ⟨h, h2⟩⟩, ?_⟩
  rw [Bool.eq_iff_iff, letterD]
  simp only [Bool.or_eq_true, Bool.and_eq_true, decide_eq_true_eq]
theorem h78 : c_host_letter.ok Tryz.prog GL 78 := con_ok (H := {}) (mkEnv_ok (gl := GL) (l := []) (q := []) (d := []) _ tyOk (by kernel_rfl) trivial trivial trivial) (by kernel_rfl) (by kernel_rfl) (Eq.mp e78 k78)
def t50 : Prop :=
  ∀ (x : q1), (q76 x) -> True -> (decide ((48 : Int) <= x.1) = true -> True) /\ (decide ((48 : Int) <= x.1) = true -> (decide ((48 : Int) <= x.1) == true) = true /\ True) /\ (decide ((48 :
  Int) <= x.1) = true -> (decide ((48 : Int) <= x.1) == true) = true) /\ (q78 x) = digitD x.1
theorem e50 : t50 = Con.vc c_host_digit GL (mkEnv ty [] [] [] [0, 2]) {} Tryz.f50.ntmps Tryz.f50.results.toList (bodyOf Tryz.f50) := by kernel_rfl
theorem k50 : t50 := by
  unfold t50
  delta q1 q76 q78 q298
  rintro ⟨l, _⟩ hx hp
  try dsimp +instances only [dft_int, dft_sl, dft_str]
  simp only [true_and, and_true, eq_self_iff_true, implies_true, reduceCtorEq, false_implies, true_implies, decide_eq_true_eq, decide_eq_false_iff_not, beq_self_eq_true, Bool.not_eq_true', ne_eq, Decidable.not_not, List.nil_append, List.length_singleton, List.length_cons, List.length_nil, Nat.zero_add, Nat.add_zero, Nat.mul_one, and_self, beq_iff_eq, Bool.not_true, Bool.not_false, Bool.not_eq_false', Bool.cond_false_right, Bool.and_eq_true, imp_self, Bool.not_eq_true, Bool.cond_true_left, Bool.or_eq_true]
  rw [Bool.eq_iff_iff, digitD]
  simp only [Bool.and_eq_true, decide_eq_true_eq]
theorem h50 : c_host_digit.ok Tryz.prog GL 50 := con_ok (H := {}) (mkEnv_ok (gl := GL) (l := []) (q := []) (d := []) _ tyOk (by kernel_rfl) trivial trivial trivial) (by kernel_rfl) (by kernel_rfl) (Eq.mp e50 k50)
def t77 : Prop :=
  ∀ (x : q1), (q76 x) -> True -> True /\ (∀ (y : q4), (q44 y) -> y.1 = letterD x.1 -> (y.1 = false -> True) /\ (y.1 = false -> (y.1 == false) = true /\ True /\ (∀ (y : q4), (q44 y) -> y.1 =
  digitD x.1 -> (y.1 = false -> True) /\ (y.1 = false -> (y.1 == false) = true /\ True) /\ (y.1 = false -> (y.1 == false) = true) /\ (bif y.1 then true else decide (x.1 = (45 : Int))) =
  lcharD x.1) /\ True) /\ (y.1 = !false -> true = lcharD x.1)) /\ True
theorem e77 : t77 = Con.vc c_host_label_1 GL (mkEnv ty [(78, conSem c_host_letter), (50, conSem c_host_digit)] [] [] [0, 2]) {} Tryz.f77.ntmps Tryz.f77.results.toList (bodyOf Tryz.f77) := by kernel_rfl
theorem k77 : t77 := by
  unfold t77
  delta q1 q76 q4 q44 q298 wbZ
  rintro ⟨l, _⟩ hx hp
  try dsimp +instances only [dft_int, dft_sl, dft_str]
  simp only [true_and, and_true, eq_self_iff_true, implies_true, reduceCtorEq, false_implies, true_implies, decide_eq_true_eq, decide_eq_false_iff_not, beq_self_eq_true, Bool.not_eq_true', ne_eq, Decidable.not_not, List.nil_append, List.length_singleton, List.length_cons, List.length_nil, Nat.zero_add, Nat.add_zero, Nat.mul_one, and_self, beq_iff_eq, Bool.not_true, Bool.not_false, Bool.not_eq_false', Bool.cond_false_right, Bool.and_eq_true, imp_self, Bool.not_eq_true, Bool.cond_true_left, Bool.or_eq_true]
  rintro ⟨a, _⟩ _ ea
  simp only at ea ⊢
  subst ea
  refine ⟨fun h => ⟨h, ?_⟩, fun h => by rw [lcharD, h]; rfl⟩
  rintro ⟨b, _⟩ _ eb
  simp only at eb ⊢
  rw [lcharD, h, eb]; rfl
theorem h77 : c_host_label_1.ok Tryz.prog GL 77 := con_ok (H := {}) (mkEnv_ok (gl := GL) (l := [(78, conSem c_host_letter), (50, conSem c_host_digit)]) (q := []) (d := []) _ tyOk (by kernel_rfl) ⟨h78.call, h50.call, trivial⟩ trivial trivial) (by kernel_rfl) (by kernel_rfl) (Eq.mp e77 k77)
def t87 : Prop :=
  ∀ (x : q1), (q76 x) -> True -> True /\ (∀ (y : q4), (q44 y) -> y.1 = letterD x.1 -> (y.1 = false -> True) /\ (y.1 = false -> (y.1 == false) = true /\ True /\ (∀ (y : q4), (q44 y) -> y.1 =
  digitD x.1 -> (y.1 = false -> True) /\ (y.1 = false -> (y.1 == false) = true /\ True) /\ (y.1 = false -> True) /\ ((y.1 == false && y.1 == false) = true -> decide (q238 x) = true -> True)
  /\ ((y.1 == false && y.1 == false) = true -> decide (q238 x) = true -> (y.1 == false && y.1 == false && decide (q238 x) == true) = true /\ True /\ (∀ (y_1 : q1), (q30 y_1) -> y_1.1 = idxB
  (bs { data := #[(46 : UInt8), (95 : UInt8), (43 : UInt8), (45 : UInt8)] }) x.1 -> (y.1 = false -> True) /\ (y.1 = false -> (y.1 == false) = true) /\ (bif y.1 then true else decide (q236 <=
  y_1.1)) = mcharD x.1) /\ True) /\ ((y.1 == false && y.1 == false) = true -> decide (q238 x) = !true -> (y.1 = false -> True) /\ (y.1 = false -> (y.1 == false) = true) /\ (bif y.1 then true
  else false) = mcharD x.1) /\ ((y.1 == false && y.1 == false) = false -> (y.1 = false -> False) /\ (y.1 = !false -> true = mcharD x.1))) /\ True) /\ (y.1 = !false -> true = mcharD x.1)) /\
  True
theorem e87 : t87 = Con.vc c_host_local_1 GL (mkEnv ty [(78, conSem c_host_letter), (50, conSem c_host_digit), (88, conSem c_strings_IndexByte)] [] [] [0, 2]) {} Tryz.f87.ntmps Tryz.f87.results.toList (bodyOf Tryz.f87) := by kernel_rfl
theorem k87 : t87 := by
  unfold t87
  delta q1 q76 q4 q44 q238 q30 q236 q298 wbZ q308 wiZ
  rintro ⟨l, _⟩ hx hp
  try dsimp +instances only [dft_int, dft_sl, dft_str]
  simp only [true_and, and_true, eq_self_iff_true, implies_true, reduceCtorEq, false_implies, true_implies, decide_eq_true_eq, decide_eq_false_iff_not, beq_self_eq_true, Bool.not_eq_true', ne_eq, Decidable.not_not, List.nil_append, List.length_singleton, List.length_cons, List.length_nil, Nat.zero_add, Nat.add_zero, Nat.mul_one, and_self, beq_iff_eq, Bool.not_true, Bool.not_false, Bool.not_eq_false', Bool.cond_false_right, Bool.and_eq_true, imp_self, Bool.not_eq_true, Bool.cond_true_left, Bool.or_eq_true]
  have hb : bs { data := #[46, 95, 43, 45] } = [46, 95, 43, 45] := by decide
  have hi : decide (0 ≤ idxB [46, 95, 43, 45] l) = decide (l = 46 ∨ l = 95 ∨ l = 43 ∨ l = 45) := by
    refine decide_eq_decide.2 ((idxB_mem _ _).trans ?_)
    simp
  rw [hb]
  rintro ⟨a, _⟩ _ ea
  simp only at ea ⊢
  subst ea
  refine ⟨fun h => ⟨h, ?_⟩, fun h => by rw [mcharD, h]; rfl⟩
  rintro ⟨b, _⟩ _ eb
  simp only at eb ⊢
  refine ⟨fun h1 h2 => ⟨⟨h1, h2⟩, ?_⟩, fun h1 h2 => ?_, fun h1 => ⟨fun h2 => ?_, fun h2 => ?_⟩⟩
  . rintro ⟨c, _⟩ _ ec
    simp only at ec ⊢
    rw [mcharD, h, ← eb, h1, ec, hi]; rfl
  . subst h2
    rw [mcharD, h, ← eb, h1]; rfl
  . rw [h2] at h1; cases h1
  . rw [mcharD, h, ← eb, h2]; rfl
theorem h87 : c_host_local_1.ok Tryz.prog GL 87 := con_ok (H := {}) (mkEnv_ok (gl := GL) (l := [(78, conSem c_host_letter), (50, conSem c_host_digit), (88, conSem c_strings_IndexByte)]) (q := []) (d := []) _ tyOk (by kernel_rfl) ⟨h78.call, h50.call, h88.call, trivial⟩ trivial trivial) (by kernel_rfl) (by kernel_rfl) (Eq.mp e87 k87)
noncomputable def i49 : CallSem := vcFn (mkEnv ty [(77, conSem c_host_label_1), (87, conSem c_host_local_1), (50, conSem c_host_digit)] [] [] [0, 1, 4, 5, 7, 8, 9, 16]) {} Tryz.f49.ntmps Tryz.f49.results.toList (bodyOf Tryz.f49)
theorem i49_ok : CallOk Tryz.prog GL 49 i49 := inl_ok {} (mkEnv_ok (gl := GL) (l := [(77, conSem c_host_label_1), (87, conSem c_host_local_1), (50, conSem c_host_digit)]) (q := []) (d := []) _ tyOk (by kernel_rfl) ⟨h77.call, h87.call, h50.call, trivial⟩ trivial trivial) (by kernel_rfl) (by kernel_rfl)
def t48 : Prop :=
  ∀ (x : q6), (q64 x) -> List.length x.1 <= q92 -> (decide (q245 x) = false -> True) /\ (q104 x) /\ (q104 x) /\ (q105 x) /\ ((q160 x) = false -> True) /\ ((q160 x) = false -> (q159 x) = true
  /\ (q61 x) /\ True) /\ ((q160 x) = false -> (q159 x) = true /\ True) /\ ((q160 x) = false -> (q159 x) = true) /\ (q155 x) /\ (q155 x) /\ (q152 x) /\ (q152 x) /\ ((q158 x) = false -> (q156
  x) = true /\ (q156 x) = true /\ (q33 <= wrZ ((lnZ x.1) - q240) /\ wrZ ((lnZ x.1) - q240) < (lnZ x.1)) /\ True) /\ (q152 x) /\ ((q158 x) = false -> (q156 x) = true) /\ ((q153 x) = true ->
  false = labelD x.1) /\ ((q153 x) = false -> ∃ (I : q8), ∃ (μ : q9), (q157 x I) /\ ∀ (y : q10) (z : Unit), (q79 y) -> True -> I y z -> (decide (y.1 < (lnZ x.1)) = true -> (q33 <= y.1 /\ y.1
  < (lnZ x.1)) /\ True /\ (∀ (y_1 : q4), (q44 y_1) -> y_1.1 = lcharD (List.getD x.1 (Int.toNat y.1) q33) -> ((!y_1.1) = true -> false = labelD x.1) /\ (q154 y_1 x I y μ z)) /\ True) /\
  (decide (y.1 < (lnZ x.1)) = false -> true = labelD x.1))
theorem e48 : t48 = Con.vc c_host_label GL (mkEnv ty [(49, i49)] [] [] [0, 2, 22]) {} Tryz.f48.ntmps Tryz.f48.results.toList (bodyOf Tryz.f48) := by kernel_rfl
theorem k48 : t48 := by
  unfold t48
  delta q6 q64 q92 q245 q104 q105 q160 q159 q61 q155 q152 q158 q156 q33 wrZ lnZ q240 q153 q8 q9 q157 q10 q79 q4 q44 q154 wsZ q236 q282 q308 wiZ wbZ
  rintro ⟨l, _⟩ hx hp
  have hp : l.length ≤ 1000000000 := hp
  try dsimp +instances only [dft_int, dft_sl, dft_str]
  simp only [true_and, and_true, eq_self_iff_true, implies_true, reduceCtorEq, false_implies, true_implies, decide_eq_true_eq, decide_eq_false_iff_not, beq_self_eq_true, Bool.not_eq_true', ne_eq, Decidable.not_not, List.nil_append, List.length_singleton, List.length_cons, List.length_nil, Nat.zero_add, Nat.add_zero, Nat.mul_one, and_self, beq_iff_eq, Bool.not_true, Bool.not_false, Bool.not_eq_false', Bool.cond_false_right, Bool.and_eq_true, imp_self, Bool.not_eq_true, Bool.cond_true_left, Bool.or_eq_true]
  rw [bs_nil]
  have hl0 : l = [] ↔ l.length = 0 := ⟨fun h => by rw [h]; rfl, List.eq_nil_of_length_eq_zero⟩
  have hw : IntKind.wrap .i64 ((l.length : Int) - 1) = l.length - 1 := wrapK _ (by omega) (by omega)
  have ht : ((l.length : Int) - 1).toNat = l.length - 1 := by omega
  rw [hw, ht]
  simp only [hl0, Bool.or_eq_false_iff, decide_eq_false_iff_not]
  refine ⟨fun h => ⟨h, by omega, by omega⟩, fun h => ⟨h, h, by omega, by omega⟩, fun h => ?_, fun h => ?_⟩
  . rw [labelD, decide_eq_false (fun hh => by rw [Ne, hl0] at hh; omega)]; rfl
  . have hl : labelD l = l.all lcharD := by
      rw [labelD, decide_eq_true (by rw [Ne, hl0]; omega)]; rfl
    rw [hl]
    refine ⟨fun y _ => 0 ≤ y.1 ∧ y.1 ≤ l.length ∧ ∀ j, j < y.1.toNat → lcharD (l.getD j 0) = true, fun y _ => ((l.length : Int) - y.1).toNat, ⟨by decide, by omega, fun j hj => by simp at hj⟩, ?_⟩
    rintro ⟨i, b, _⟩ _ _ ⟨i0, i1, i2⟩
    simp only at i0 i1 i2 ⊢
    have hw1 : IntKind.wrap .i64 (i + 1) = i + 1 := wrapK _ (by omega) (by omega)
    rw [hw1]
    refine ⟨fun hlt => ⟨⟨i0, hlt⟩, ?_⟩, fun hge => (all_get _ _ (fun j hj => i2 j (by omega))).symm⟩
    rintro ⟨c, _⟩ _ ec
    simp only at ec ⊢
    refine ⟨fun h => (all_not _ _ i.toNat (by omega) (ec.symm.trans h)).symm, fun h => ⟨⟨by omega, by omega, fun j hj => ?_⟩, by omega⟩⟩
    by_cases hji : j < i.toNat
    . exact i2 j hji
    . rw [show j = i.toNat by omega, ← ec]; exact h
theorem h48 : c_host_label.ok Tryz.prog GL 48 := con_ok (H := {}) (mkEnv_ok (gl := GL) (l := [(49, i49)]) (q := []) (d := []) _ tyOk (by kernel_rfl) ⟨i49_ok, trivial⟩ trivial trivial) (by kernel_rfl) (by kernel_rfl) (Eq.mp e48 k48)
def t56 : Prop :=
  ∀ (x : q6), (q64 x) -> List.length x.1 <= q92 -> (decide (q245 x) = false -> True) /\ (q104 x) /\ (q104 x) /\ (q105 x) /\ ((q167 x) = false -> True) /\ ((q167 x) = false -> (q166 x) = true
  /\ (q61 x) /\ True) /\ ((q167 x) = false -> (q166 x) = true /\ True) /\ ((q167 x) = false -> (q166 x) = true) /\ (q163 x) /\ (q163 x) /\ (q161 x) /\ (q161 x) /\ ((q165 x) = false -> (q164
  x) = true /\ (q164 x) = true /\ (q33 <= wrZ ((lnZ x.1) - q240) /\ wrZ ((lnZ x.1) - q240) < (lnZ x.1)) /\ True) /\ (q161 x) /\ ((q165 x) = false -> (q164 x) = true) /\ ((q162 x) = false ->
  True) /\ ((q162 x) = false -> ((q162 x) == false) = true /\ List.length x.1 < q32 /\ (∀ (y : q4), (q44 y) -> y.1 = decide (q33 <= idxS x.1 (bs { data := #[(46 : UInt8), (46 : UInt8)] })) ->
  (y.1 = true -> false = localD x.1) /\ (y.1 = false -> ∃ (I : q8), ∃ (μ : q9), (q157 x I) /\ ∀ (y : q10) (z : Unit), (q79 y) -> True -> I y z -> (decide (y.1 < (lnZ x.1)) = true -> (q33 <=
  y.1 /\ y.1 < (lnZ x.1)) /\ True /\ (∀ (y_1 : q4), (q44 y_1) -> y_1.1 = mcharD (List.getD x.1 (Int.toNat y.1) q33) -> ((!y_1.1) = true -> false = localD x.1) /\ (q154 y_1 x I y μ z)) /\
  True) /\ (decide (y.1 < (lnZ x.1)) = false -> true = localD x.1))) /\ True) /\ ((q162 x) = !false -> false = localD x.1)
theorem e56 : t56 = Con.vc c_host_local GL (mkEnv ty [(49, i49), (43, conSem c_strings_Contains)] [] [] [0, 2, 26]) {} Tryz.f56.ntmps Tryz.f56.results.toList (bodyOf Tryz.f56) := by kernel_rfl
theorem k56 : t56 := by
  unfold t56
  delta q6 q64 q92 q245 q104 q105 q167 q166 q61 q163 q161 q165 q164 q33 wrZ lnZ q240 q162 q32 q4 q44 q8 q9 q157 q10 q79 q154 wsZ q236 q283 q308 wbZ wiZ
  rintro ⟨l, _⟩ hx hp
  have hp : l.length ≤ 1000000000 := hp
  try dsimp +instances only [dft_int, dft_sl, dft_str]
  simp only [true_and, and_true, eq_self_iff_true, implies_true, reduceCtorEq, false_implies, true_implies, decide_eq_true_eq, decide_eq_false_iff_not, beq_self_eq_true, Bool.not_eq_true', ne_eq, Decidable.not_not, List.nil_append, List.length_singleton, List.length_cons, List.length_nil, Nat.zero_add, Nat.add_zero, Nat.mul_one, and_self, beq_iff_eq, Bool.not_true, Bool.not_false, Bool.not_eq_false', Bool.cond_false_right, Bool.and_eq_true, imp_self, Bool.not_eq_true, Bool.cond_true_left, Bool.or_eq_true]
  have hb : bs { data := #[46, 46] } = [46, 46] := by decide
  rw [bs_nil, hb, idxS_dots]
  have hl0 : l = [] ↔ l.length = 0 := ⟨fun h => by rw [h]; rfl, List.eq_nil_of_length_eq_zero⟩
  have hw : IntKind.wrap .i64 ((l.length : Int) - 1) = l.length - 1 := wrapK _ (by omega) (by omega)
  have ht : ((l.length : Int) - 1).toNat = l.length - 1 := by omega
  rw [hw, ht]
  simp only [hl0, Bool.or_eq_false_iff, decide_eq_false_iff_not]
  refine ⟨fun h => ⟨h, by omega, by omega⟩, fun h => ⟨h, h, by omega, by omega⟩, fun h => ⟨h, by omega, ?_⟩, fun h => ?_⟩
  . rintro ⟨a, _⟩ _ ea
    simp only at ea ⊢
    have hl : localD l = (!dotsD l && l.all mcharD) := by
      rw [localD, decide_eq_true (by rw [Ne, hl0]; omega)]; rfl
    rw [hl, ← ea]
    refine ⟨fun h => by rw [h]; rfl, fun h => ?_⟩
    rw [h]
    show ∃ I μ, _
    refine ⟨fun y _ => 0 ≤ y.1 ∧ y.1 ≤ l.length ∧ ∀ j, j < y.1.toNat → mcharD (l.getD j 0) = true, fun y _ => ((l.length : Int) - y.1).toNat, ⟨by decide, by omega, fun j hj => by simp at hj⟩, ?_⟩
    rintro ⟨i, b, _⟩ _ _ ⟨i0, i1, i2⟩
    simp only at i0 i1 i2 ⊢
    have hw1 : IntKind.wrap .i64 (i + 1) = i + 1 := wrapK _ (by omega) (by omega)
    rw [hw1]
    refine ⟨fun hlt => ⟨⟨i0, hlt⟩, ?_⟩, fun hge => (all_get _ _ (fun j hj => i2 j (by omega))).symm⟩
    rintro ⟨c, _⟩ _ ec
    simp only at ec ⊢
    refine ⟨fun h => (all_not _ _ i.toNat (by omega) (ec.symm.trans h)).symm, fun h => ⟨⟨by omega, by omega, fun j hj => ?_⟩, by omega⟩⟩
    by_cases hji : j < i.toNat
    . exact i2 j hji
    . rw [show j = i.toNat by omega, ← ec]; exact h
  . rw [localD, decide_eq_false (fun hh => by rw [Ne, hl0] at hh; omega)]; rfl
theorem h56 : c_host_local.ok Tryz.prog GL 56 := con_ok (H := {}) (mkEnv_ok (gl := GL) (l := [(49, i49), (43, conSem c_strings_Contains)]) (q := []) (d := []) _ tyOk (by kernel_rfl) ⟨i49_ok, h43.call, trivial⟩ trivial trivial) (by kernel_rfl) (by kernel_rfl) (Eq.mp e56 k56)
noncomputable def i76 : CallSem → CallSem := vcSeq (mkEnv ty [(46, conSem c_strings_Cut)] [] [] [0, 1, 3, 4, 5, 17]) {} Tryz.f76.ntmps Tryz.f76.results.toList (bodyOf Tryz.f76)
theorem i76_ok : SeqOk Tryz.prog GL 76 i76 := seq_ok {} (mkEnv_ok (gl := GL) (l := [(46, conSem c_strings_Cut)]) (q := []) (d := []) _ tyOk (by kernel_rfl) ⟨h46.call, trivial⟩ trivial trivial) (by kernel_rfl) (by kernel_rfl)
noncomputable def i47 : CallSem := vcFn (mkEnv ty [] [] [] [0, 1, 2]) {} Tryz.f47.ntmps Tryz.f47.results.toList (bodyOf Tryz.f47)
theorem i47_ok : CallOk Tryz.prog GL 47 i47 := inl_ok {} (mkEnv_ok (gl := GL) (l := []) (q := []) (d := []) _ tyOk (by kernel_rfl) trivial trivial trivial) (by kernel_rfl) (by kernel_rfl)
def t25 : Prop :=
  ∀ (x : q6), (q64 x) -> List.length x.1 <= q92 -> q36 <= q65 /\ (decide ((253 : Int) < (lnZ x.1)) = true -> false = dnsD x.1) /\ (decide ((253 : Int) < (lnZ x.1)) = false -> q36 <= q65 /\
  List.length [SV.dat Kd.str x.1] <= q65 /\ (List.length x.1 < q32 /\ List.length q170 = q36) /\ (∀ (y : q3), (q37 y) -> y.1 = (q169 x).1 /\ y.2.1 = (q169 x).2.1 /\ y.2.2.1 = (q169 x).2.2 ->
  ∃ (I : Bool × List Int × List Int × Unit -> (Bool × Unit) × q89 × q89 × Unit -> Prop), ∃ (μ : Bool × List Int × List Int × Unit -> (Bool × Unit) × q89 × q89 × Unit -> Nat), (Value.bool
  false = Value.bool false /\ x.1 = x.1 /\ I (y.2.2.1, y.2.1, y.1, ()) ((false, ()), (bs { data := #[] }, ()), (x.1, ()), ())) /\ ∀ (y : Bool × List Int × List Int × Unit) (z : q17), (wbZ y.1
  /\ wsZ y.2.1 /\ wsZ y.2.2.1 /\ True) -> (wbZ z.1.1 /\ True) /\ (wsZ z.2.1.1 /\ True) /\ (wsZ z.2.2.1.1 /\ True) /\ True -> I y z -> List.length y.2.2.1 <= q92 /\ (∀ (y_1 : q4), (q44 y_1) ->
  y_1.1 = labelD y.2.2.1 -> ((!y_1.1) = true -> false = dnsD x.1) /\ ((!y_1.1) = false -> (y.1 = true -> (List.length y.2.1 < q32 /\ List.length q170 = q36) /\ (∀ (y_2 : q3), (q37 y_2) ->
  y_2.1 = (q168 y).1 /\ y_2.2.1 = (q168 y).2.1 /\ y_2.2.2.1 = (q168 y).2.2 -> Value.bool false = Value.bool false /\ x.1 = x.1 /\ I (y_2.2.2.1, y_2.2.1, y_2.1, ()) ((z.1.1, ()), (y.2.2.1,
  ()), (z.2.2.1.1, ()), ()) /\ μ (y_2.2.2.1, y_2.2.1, y_2.1, ()) ((z.1.1, ()), (y.2.2.1, ()), (z.2.2.1.1, ()), ()) < μ y z) /\ True) /\ (y.1 = false -> ∃ (I : Int × Bool × Unit -> (Bool ×
  Unit) × q89 × q89 × Unit -> Prop), ∃ (μ : Int × Bool × Unit -> (Bool × Unit) × q89 × q89 × Unit -> Nat), ((lnZ y.2.2.1) = (lnZ y.2.2.1) /\ y.2.2.1 = y.2.2.1 /\ y.2.2.1 = y.2.2.1 /\
  Value.bool false = Value.bool false /\ x.1 = x.1 /\ I (q33, false, ()) ((z.1.1, ()), (y.2.2.1, ()), (z.2.2.1.1, ()), ())) /\ ∀ (y_2 : q10) (z : q17), (q79 y_2) -> (wbZ z.1.1 /\ True) /\
  (wsZ z.2.1.1 /\ True) /\ (wsZ z.2.2.1.1 /\ True) /\ True -> I y_2 z -> (decide (y_2.1 < (lnZ y.2.2.1)) = true -> (q33 <= y_2.1 /\ y_2.1 < (lnZ y.2.2.1)) /\ True /\ (∀ (y_3 : q4), (q44 y_3)
  -> y_3.1 = digitD (List.getD y.2.2.1 (Int.toNat y_2.1) q33) -> ((!y_3.1) = true -> (!false) = dnsD x.1) /\ ((!y_3.1) = false -> (lnZ y.2.2.1) = (lnZ y.2.2.1) /\ y.2.2.1 = y.2.2.1 /\ y.2.2.1
  = y.2.2.1 /\ Value.bool false = Value.bool false /\ x.1 = x.1 /\ I (wrZ (y_2.1 + q240), y_2.2.1, ()) ((z.1.1, ()), (z.2.1.1, ()), (z.2.2.1.1, ()), ()) /\ μ (wrZ (y_2.1 + q240), y_2.2.1, ())
  ((z.1.1, ()), (z.2.1.1, ()), (z.2.2.1.1, ()), ()) < μ y_2 z)) /\ True) /\ (decide (y_2.1 < (lnZ y.2.2.1)) = false -> (!true) = dnsD x.1)))) /\ True) /\ True)
theorem e25 : t25 = Con.vc c_host_DNS GL (mkEnv ty [(47, i47), (48, conSem c_host_label), (49, i49)] [(76, i76)] [] [0, 2, 3, 4, 7, 9, 10, 13]) {} Tryz.f25.ntmps Tryz.f25.results.toList (bodyOf Tryz.f25) := by kernel_rfl
theorem k25 : t25 := by
  unfold t25
  delta q6 q64 q92 q36 q65 lnZ q32 q170 q3 q37 q169 q89 q17 wbZ wsZ q4 q44 q168 q33 q10 q79 wrZ q240 q252 q236 wiZ
  rintro ⟨l, _⟩ hx hp
  have hp : l.length ≤ 1000000000 := hp
  try dsimp +instances only [dft_int, dft_sl, dft_str]
  simp only [true_and, and_true, eq_self_iff_true, implies_true, reduceCtorEq, false_implies, true_implies, decide_eq_true_eq, decide_eq_false_iff_not, beq_self_eq_true, Bool.not_eq_true', ne_eq, Decidable.not_not, List.nil_append, List.length_singleton, List.length_cons, List.length_nil, Nat.zero_add, Nat.add_zero, Nat.mul_one, and_self, beq_iff_eq, Bool.not_true, Bool.not_false, Bool.not_eq_false', Bool.cond_false_right, Bool.and_eq_true, imp_self, Bool.not_eq_true, Bool.cond_true_left, Bool.or_eq_true]
  have hb : bs { data := #[46] } = [46] := by decide
  have hd : ([46] : List Int).getD 0 0 = 46 := rfl
  rw [hb, hd, bs_nil]
  refine ⟨by decide, fun h => (dns_long (by omega)).symm, fun hn => ⟨by decide, by decide, ⟨by omega, rfl⟩, ?_⟩⟩
  rintro ⟨wd, rest, more, _⟩ _ ⟨e1, e2, e3⟩
  simp only at e1 e2 e3 ⊢
  have hcl := cutD_len l 46
  refine ⟨fun y _ => y.2.2.1.length ≤ l.length ∧ y.2.1.length ≤ l.length ∧ ∃ P, P.all labelD = true ∧ labelsD l = P ++ (y.2.2.1 :: if y.1 then labelsD y.2.1 else []), fun y _ => if y.1 then y.2.1.length + 1 else 0,
    ⟨by rw [e1]; exact hcl.1, by rw [e2]; exact hcl.2, [], rfl, by rw [e1, e2, e3]; exact labels_cut l⟩, ?_⟩
  rintro ⟨mo, re, w, _⟩ ⟨⟨z1, _⟩, ⟨z2, _⟩, ⟨z3, _⟩, _⟩ _ _ ⟨w1, w2, P, hP, hW⟩
  simp only at w1 w2 hW ⊢
  refine ⟨by omega, ?_⟩
  rintro ⟨b, _⟩ _ eb
  simp only at eb ⊢
  refine ⟨fun h => (dns_bad (w := w) (by rw [hW]; simp) (eb.symm.trans h)).symm, fun h => ⟨fun hm => ⟨⟨by omega, rfl⟩, ?_⟩, fun hm => ?_⟩⟩
  . rintro ⟨wd', re', mo', _⟩ _ ⟨f1, f2, f3⟩
    simp only at f1 f2 f3 ⊢
    have hcl := cutD_len re 46
    have hj := congrArg List.length (cutD_join re 46)
    rw [← f1, ← f2, ← f3] at hj
    rw [← f1, ← f2] at hcl
    refine ⟨⟨by omega, by omega, P ++ [w], ?_, ?_⟩, ?_⟩
    . rw [List.all_append, hP]
      simp [← eb, h]
    . rw [hW, hm, f1, f2, f3]
      simp only [if_true]
      rw [labels_cut re, List.append_assoc]
      rfl
    . rw [hm]
      simp only [if_true]
      split
      . rename_i hmo
        rw [hmo] at hj
        simp at hj
        omega
      . omega
  . have hWe : labelsD l = P ++ [w] := by rw [hW, hm]; rfl
    have hdn : dnsD l = !w.all digitD := by
      rw [dns_last (by omega) (by rw [hWe, List.all_append, hP]; simp [← eb, h]), hWe, last_snoc]
    rw [hdn]
    refine ⟨fun y _ => 0 ≤ y.1 ∧ y.1 ≤ w.length ∧ ∀ j, j < y.1.toNat → digitD (w.getD j 0) = true, fun y _ => ((w.length : Int) - y.1).toNat, ⟨Int.le_refl 0, by simp only; omega, fun j hj => by simp at hj⟩, ?_⟩
    rintro ⟨i, b2, _⟩ z _ _ ⟨i0, i1, i2⟩
    simp only at i0 i1 i2 ⊢
    have hw1 : IntKind.wrap .i64 (i + 1) = i + 1 := wrapK _ (by omega) (by omega)
    rw [hw1]
    refine ⟨fun hlt => ⟨⟨i0, hlt⟩, ?_⟩, fun hge => by rw [all_get _ _ (fun j hj => i2 j (by omega))]; rfl⟩
    rintro ⟨c, _⟩ _ ec
    simp only at ec ⊢
    refine ⟨fun h => by rw [all_not _ _ i.toNat (by omega) (ec.symm.trans h)]; rfl, fun h => ⟨⟨by omega, by omega, fun j hj => ?_⟩, by omega⟩⟩
    by_cases hji : j < i.toNat
    . exact i2 j hji
    . rw [show j = i.toNat by omega, ← ec]; exact h
theorem h25 : c_host_DNS.ok Tryz.prog GL 25 := con_ok (H := {}) (mkEnv_ok (gl := GL) (l := [(47, i47), (48, conSem c_host_label), (49, i49)]) (q := [(76, i76)]) (d := []) _ tyOk (by kernel_rfl) ⟨i47_ok, h48.call, i49_ok, trivial⟩ ⟨i76_ok, trivial⟩ trivial) (by kernel_rfl) (by kernel_rfl) (Eq.mp e25 k25)
def t17 : Prop :=
  ∀ (x : q6), (q64 x) -> List.length x.1 <= q92 -> True /\ (∀ (y : q5), (wsZ y.1 /\ wbZ y.2.1 /\ True) -> (y.1 = if hasP q172 x.1 = true then List.drop (List.length q172) x.1 else x.1) /\
  y.2.1 = hasP q172 x.1 -> (y.2.1 = true -> True) /\ (y.2.1 = true -> (y.2.1 == true) = true /\ True) /\ (y.2.1 = true -> (y.2.1 == true) = true /\ True) /\ (y.2.1 = true -> (y.2.1 == true) =
  true) /\ ((q171 y x) = true -> True) /\ ((q171 y x) = true -> ((q171 y x) == true) = true /\ List.length y.1 < q32 /\ (∀ (y_1 : q4), (q44 y_1) -> y_1.1 = decide (q33 <= idxS y.1 q170) ->
  (y_1.1 = true -> True) /\ (y_1.1 = true -> (y_1.1 == true) = true /\ List.length y.1 <= q92 /\ (∀ (y_2 : q4), (q44 y_2) -> y_2.1 = dnsD y.1 -> y_2.1 = wildD x.1) /\ True) /\ (y_1.1 = !true
  -> false = wildD x.1)) /\ True) /\ ((q171 y x) = !true -> false = wildD x.1)) /\ True
theorem e17 : t17 = Con.vc c_host_Wild GL (mkEnv ty [(42, conSem c_strings_CutPrefix), (43, conSem c_strings_Contains), (25, conSem c_host_DNS)] [] [] [0, 2, 3, 4]) {} Tryz.f17.ntmps Tryz.f17.results.toList (bodyOf Tryz.f17) := by kernel_rfl
theorem k17 : t17 := by
  unfold t17
  delta q6 q64 q92 q5 wsZ wbZ q172 q171 q32 q4 q44 q33 q170 lnZ
  rintro ⟨l, _⟩ hx hp
  have hp : l.length ≤ 1000000000 := hp
  try dsimp +instances only [dft_int, dft_sl, dft_str]
  simp only [true_and, and_true, eq_self_iff_true, implies_true, reduceCtorEq, false_implies, true_implies, decide_eq_true_eq, decide_eq_false_iff_not, beq_self_eq_true, Bool.not_eq_true', ne_eq, Decidable.not_not, List.nil_append, List.length_singleton, List.length_cons, List.length_nil, Nat.zero_add, Nat.add_zero, Nat.mul_one, and_self, beq_iff_eq, Bool.not_true, Bool.not_false, Bool.not_eq_false', Bool.cond_false_right, Bool.and_eq_true, imp_self, Bool.not_eq_true, Bool.cond_true_left, Bool.or_eq_true]
  have hb : bs { data := #[46] } = [46] := by decide
  have hb2 : bs { data := #[42, 46] } = [42, 46] := by decide
  rw [hb, hb2]
  rintro ⟨a, b, _⟩ _ ⟨ea, eb⟩
  simp only at ea eb ⊢
  have hal : a.length ≤ l.length := by rw [ea]; split <;> simp
  refine ⟨fun h => ⟨h, by omega, ?_⟩, fun h => ?_⟩
  . have hh : hasP [42, 46] l = true := eb.symm.trans h.1
    rw [if_pos hh] at ea
    have ea : a = l.drop 2 := ea
    rintro ⟨c, _⟩ _ ec
    simp only at ec ⊢
    rw [contains_one, ea] at ec
    have hwd : wildD l = (c && dnsD a) := by
      rw [wildD, hh, decide_eq_true (show l.length ≤ 253 by omega), ← ec, ← ea]; rfl
    rw [hwd]
    refine ⟨fun hc => ⟨hc, by omega, ?_⟩, fun hc => by rw [hc]; rfl⟩
    rintro ⟨d, _⟩ _ ed
    simp only at ed ⊢
    rw [hc, ed]; rfl
  . rw [eb] at h
    rw [wildD, ← Bool.and_assoc, show decide (l.length ≤ 253) = decide ((l.length : Int) ≤ 253) from decide_eq_decide.2 (by omega), h]; rfl
theorem h17 : c_host_Wild.ok Tryz.prog GL 17 := con_ok (H := {}) (mkEnv_ok (gl := GL) (l := [(42, conSem c_strings_CutPrefix), (43, conSem c_strings_Contains), (25, conSem c_host_DNS)]) (q := []) (d := []) _ tyOk (by kernel_rfl) ⟨h42.call, h43.call, h25.call, trivial⟩ trivial trivial) (by kernel_rfl) (by kernel_rfl) (Eq.mp e17 k17)
def t32 : Prop :=
  ∀ (x : q6), (q64 x) -> List.length x.1 <= q92 -> (List.length x.1 < q32 /\ List.length (bs { data := #[(64 : UInt8)] }) = q36) /\ (∀ (y : q3), (q37 y) -> y.1 = (q173 x).1 /\ y.2.1 = (q173
  x).2.1 /\ y.2.2.1 = (q173 x).2.2 -> (y.2.2.1 = true -> True) /\ (y.2.2.1 = true -> (y.2.2.1 == true) = true /\ List.length y.1 <= q92 /\ (∀ (y_1 : q4), (q44 y_1) -> y_1.1 = localD y.1 ->
  (y_1.1 = true -> True) /\ (y_1.1 = true -> (y_1.1 == true) = true /\ List.length y.2.1 <= q92 /\ (∀ (y_2 : q4), (q44 y_2) -> y_2.1 = dnsD y.2.1 -> y_2.1 = emailD x.1) /\ True) /\ (y_1.1 =
  !true -> false = emailD x.1)) /\ True) /\ (y.2.2.1 = !true -> false = emailD x.1)) /\ True
theorem e32 : t32 = Con.vc c_host_Email GL (mkEnv ty [(46, conSem c_strings_Cut), (56, conSem c_host_local), (25, conSem c_host_DNS)] [] [] [0, 2, 3, 4, 5]) {} Tryz.f32.ntmps Tryz.f32.results.toList (bodyOf Tryz.f32) := by kernel_rfl
theorem k32 : t32 := by
  unfold t32
  delta q6 q64 q92 q32 q36 q3 q37 q173 q4 q44 wsZ wbZ q284 q308
  rintro ⟨l, _⟩ hx hp
  have hp : l.length ≤ 1000000000 := hp
  try dsimp +instances only [dft_int, dft_sl, dft_str]
  simp only [true_and, and_true, eq_self_iff_true, implies_true, reduceCtorEq, false_implies, true_implies, decide_eq_true_eq, decide_eq_false_iff_not, beq_self_eq_true, Bool.not_eq_true', ne_eq, Decidable.not_not, List.nil_append, List.length_singleton, List.length_cons, List.length_nil, Nat.zero_add, Nat.add_zero, Nat.mul_one, and_self, beq_iff_eq, Bool.not_true, Bool.not_false, Bool.not_eq_false', Bool.cond_false_right, Bool.and_eq_true, imp_self, Bool.not_eq_true, Bool.cond_true_left, Bool.or_eq_true]
  have hb : bs { data := #[64] } = [64] := by decide
  have hd : ([64] : List Int).getD 0 0 = 64 := rfl
  rw [hb, hd]
  have hcl := cutD_len l 64
  refine ⟨⟨by omega, rfl⟩, ?_⟩
  rintro ⟨a, b, c, _⟩ _ ⟨ea, eb, ec⟩
  simp only at ea eb ec ⊢
  have he : emailD l = (c && (localD a && dnsD b)) := by rw [emailD, ea, eb, ec]
  rw [he]
  rw [← ea, ← eb] at hcl
  refine ⟨fun h => ⟨h, by omega, ?_⟩, fun h => by rw [h]; rfl⟩
  rintro ⟨u, _⟩ _ eu
  simp only at eu ⊢
  rw [h, ← eu]
  refine ⟨fun h => ⟨h, by omega, ?_⟩, fun h => by rw [h]; rfl⟩
  rintro ⟨v, _⟩ _ ev
  simp only at ev ⊢
  rw [h, ev]; rfl
theorem h32 : c_host_Email.ok Tryz.prog GL 32 := con_ok (H := {}) (mkEnv_ok (gl := GL) (l := [(46, conSem c_strings_Cut), (56, conSem c_host_local), (25, conSem c_host_DNS)]) (q := []) (d := []) _ tyOk (by kernel_rfl) ⟨h46.call, h56.call, h25.call, trivial⟩ trivial trivial) (by kernel_rfl) (by kernel_rfl) (Eq.mp e32 k32)
def t74 : Prop :=
  ∀ (x : q6), (q64 x) -> True -> (decide ((lnZ x.1) = (4 : Int)) = false -> True) /\ (decide ((lnZ x.1) = (4 : Int)) = false -> (decide ((lnZ x.1) = (4 : Int)) == false) = true /\ True) /\
  (decide ((lnZ x.1) = (4 : Int)) = false -> (decide ((lnZ x.1) = (4 : Int)) == false) = true /\ True) /\ (decide ((lnZ x.1) = (4 : Int)) = false -> (decide ((lnZ x.1) = (4 : Int)) == false)
  = true) /\ (bif decide ((lnZ x.1) = (4 : Int)) then true else decide ((lnZ x.1) = (16 : Int))) = ipD x.1
theorem e74 : t74 = Con.vc c_host_IP GL (mkEnv ty [] [] [] [0, 2]) {} Tryz.f74.ntmps Tryz.f74.results.toList (bodyOf Tryz.f74) := by kernel_rfl
theorem k74 : t74 := by
  unfold t74
  delta q6 q64 lnZ wsZ
  rintro ⟨l, _⟩ hx hp
  try dsimp +instances only [dft_int, dft_sl, dft_str]
  simp only [true_and, and_true, eq_self_iff_true, implies_true, reduceCtorEq, false_implies, true_implies, decide_eq_true_eq, decide_eq_false_iff_not, beq_self_eq_true, Bool.not_eq_true', ne_eq, Decidable.not_not, List.nil_append, List.length_singleton, List.length_cons, List.length_nil, Nat.zero_add, Nat.add_zero, Nat.mul_one, and_self, beq_iff_eq, Bool.not_true, Bool.not_false, Bool.not_eq_false', Bool.cond_false_right, Bool.and_eq_true, imp_self, Bool.not_eq_true, Bool.cond_true_left, Bool.or_eq_true]
  rw [Bool.eq_iff_iff, ipD]
  simp only [Bool.or_eq_true, decide_eq_true_eq]
  omega
theorem h74 : c_host_IP.ok Tryz.prog GL 74 := con_ok (H := {}) (mkEnv_ok (gl := GL) (l := []) (q := []) (d := []) _ tyOk (by kernel_rfl) trivial trivial trivial) (by kernel_rfl) (by kernel_rfl) (Eq.mp e74 k74)
end Go.Proofs.YtgnlcpoeepfdoaaGreatDoor
end
section
namespace Go.Proofs.YtgnlcpoeepfdoaaGreatDoor
open Go Go.Vc Go.Pl Go.Proofs
def c_host_small : Con := { args := [.dat .str], res := [.dat .str], pre := fun x => x.1.length ≤ 1000000000, post := fun x y => y.1 = lowD x.1 }
def c_host_Match : Con := { args := [.dat .str, .dat .str], res := [.dat .bool], pre := fun x => x.1.length ≤ 1000000000 ∧ x.2.1.length ≤ 1000000000, post := fun x y => y.1 = matchD x.1 x.2.1 }
end Go.Proofs.YtgnlcpoeepfdoaaGreatDoor
end
section
namespace Go.Proofs.YtgnlcpoeepfdoaaGreatDoor
open Go Go.Vc Go.Pl Go.Proofs
set_option linter.unusedVariables false
set_option linter.unusedSimpArgs false
abbrev q174 (p0 : q6) (p1 : q1) := (bif decide (q237 <= List.getD p0.1 (Int.toNat p1.1) q272) then decide (List.getD p0.1 (Int.toNat p1.1) q272 <= (90 : Int)) else false)
abbrev q175 (p0 : q6) (p1 : q1) := (IntKind.wrap IntKind.u8 (IntKind.wrap IntKind.u8 (List.getD p0.1 (Int.toNat p1.1) q272 + (97 : Int)) - q237))
abbrev q176 (p0 : q6) (p1 : q1) := (q237 <= List.getD p0.1 (Int.toNat p1.1) q272)
def t45 : Prop :=
  ∀ (x : q6), (q64 x) -> List.length x.1 <= q92 -> ∃ (I : Int × Unit -> List Int × Unit -> Prop), ∃ (μ : Int × Unit -> List Int × Unit -> Nat), ((lnZ x.1) = (lnZ x.1) /\ bs { data := #[] } =
  bs { data := #[] } /\ x.1 = x.1 /\ I (q33, ()) (x.1, ())) /\ ∀ (y : q1) (z : q6), (q30 y) -> (wyZ z.1 /\ True) -> I y z -> (decide (y.1 < (lnZ x.1)) = true -> (q33 <= y.1 /\ y.1 < (lnZ
  z.1)) /\ (decide (q176 z y) = true -> True) /\ (decide (q176 z y) = true -> (decide (q176 z y) == true) = true /\ True) /\ (decide (q176 z y) = true -> (decide (q176 z y) == true) = true)
  /\ ((q174 z y) = true -> (q33 <= y.1 /\ y.1 < (lnZ z.1)) /\ (lnZ x.1) = (lnZ x.1) /\ bs { data := #[] } = bs { data := #[] } /\ x.1 = x.1 /\ I (wrZ (y.1 + q66), ()) (List.set z.1 (q35 y)
  (q175 z y), ()) /\ μ (wrZ (y.1 + q66), ()) (List.set z.1 (q35 y) (q175 z y), ()) < μ y z) /\ ((q174 z y) = false -> (lnZ x.1) = (lnZ x.1) /\ bs { data := #[] } = bs { data := #[] } /\ x.1 =
  x.1 /\ I (wrZ (y.1 + q66), ()) (z.1, ()) /\ μ (wrZ (y.1 + q66), ()) (z.1, ()) < μ y z)) /\ (decide (y.1 < (lnZ x.1)) = false -> z.1 = lowD x.1)
theorem e45 : t45 = Con.vc c_host_small GL (mkEnvO ty [] [] [] [0, 2, 3, 4, 5, 8, 9, 10, 11, 20] [7]) {} Tryz.f45.ntmps Tryz.f45.results.toList (bodyOf Tryz.f45) := by kernel_rfl
theorem k45 : t45 := by
  unfold t45
  delta q6 q64 q92 lnZ q33 q1 q30 wyZ q176 q174 wrZ q66 q35 q175 wsZ wiZ q237 q272 q298
  rintro ⟨l, _⟩ hx hp
  have hp : l.length ≤ 1000000000 := hp
  try dsimp +instances only [dft_int, dft_sl, dft_str]
  simp only [true_and, and_true, eq_self_iff_true, implies_true, reduceCtorEq, false_implies, true_implies, decide_eq_true_eq, decide_eq_false_iff_not, beq_self_eq_true, Bool.not_eq_true', ne_eq, Decidable.not_not, List.nil_append, List.length_singleton, List.length_cons, List.length_nil, Nat.zero_add, Nat.add_zero, Nat.mul_one, and_self, beq_iff_eq, Bool.not_true, Bool.not_false, Bool.not_eq_false', Bool.cond_false_right, Bool.and_eq_true, imp_self, Bool.not_eq_true, Bool.cond_true_left, Bool.or_eq_true]
  refine ⟨fun y z => 0 ≤ y.1 ∧ y.1 ≤ l.length ∧ z.1 = lowD (l.take y.1.toNat) ++ l.drop y.1.toNat, fun y _ => ((l.length : Int) - y.1).toNat, ⟨Int.le_refl 0, by simp only; omega, rfl⟩, ?_⟩
  rintro ⟨i, _⟩ ⟨z, _⟩ _ _ ⟨i0, i1, ez⟩
  simp only at i0 i1 ez ⊢
  have hw1 : IntKind.wrap .i64 (i + 1) = i + 1 := wrapK _ (by omega) (by omega)
  have hzl : (lowD (l.take i.toNat)).length = i.toNat := by rw [low_len, List.length_take]; omega
  have hll : z.length = l.length := by rw [ez, List.length_append, hzl, List.length_drop]; omega
  rw [hw1]
  have e1 : (i + 1).toNat = i.toNat + 1 := by omega
  have hg : z.getD i.toNat 0 = l.getD i.toNat 0 := by
    have := getD_append_right (lowD (l.take i.toNat)) (l.drop i.toNat) 0
    rw [hzl, Nat.add_zero] at this
    rw [ez, this, getD_drop, Nat.add_zero]
  have step : i < l.length → lowD (l.take (i + 1).toNat) = lowD (l.take i.toNat) ++ [smallD (l.getD i.toNat 0)] := fun hlt => by
    rw [e1, take_snoc l i.toNat (by omega)]
    simp [lowD]
  rw [hg]
  refine ⟨fun hlt => ⟨⟨i0, by omega⟩, fun h => ⟨⟨i0, by omega⟩, ⟨by omega, by omega, ?_⟩, by omega⟩, fun h => ⟨⟨by omega, by omega, ?_⟩, by omega⟩⟩, fun hge => ?_⟩
  . have w1 : IntKind.wrap .u8 (l.getD i.toNat 0 + 97) = l.getD i.toNat 0 + 97 := wrap8 _ (by omega) (by omega)
    rw [w1, wrap8 (l.getD i.toNat 0 + 97 - 65) (by omega) (by omega), step hlt, smallD, if_pos h, ez, drop_cons l i.toNat (by omega)]
    have e2 : (lowD (l.take i.toNat) ++ l.getD i.toNat 0 :: l.drop (i.toNat + 1)).set i.toNat (l.getD i.toNat 0 + 97 - 65) = lowD (l.take i.toNat) ++ (l.getD i.toNat 0 + 97 - 65) :: l.drop (i.toNat + 1) := by
      rw [List.set_append_right _ _ (by omega), hzl, Nat.sub_self]; rfl
    rw [e2, e1, List.append_assoc, show l.getD i.toNat 0 + 97 - 65 = l.getD i.toNat 0 + 32 by omega]
    rfl
  . simp only [Bool.and_eq_false_iff, decide_eq_false_iff_not] at h
    rw [step hlt, smallD, if_neg (by omega), ez, drop_cons l i.toNat (by omega), e1, List.append_assoc]
    rfl
  . rw [ez, List.take_of_length_le (by omega), List.drop_of_length_le (by omega), List.append_nil]
theorem h45 : c_host_small.ok Tryz.prog GL 45 := conO_ok (H := {}) (mkEnvO_ok (gl := GL) (l := []) (q := []) (d := []) _ [7] tyOk (by kernel_rfl) trivial trivial trivial) (by kernel_rfl) (by kernel_rfl) (Eq.mp e45 k45)
def t19 : Prop :=
  ∀ (x : q2), (q31 x) -> List.length x.1 <= q92 /\ List.length x.2.1 <= q92 -> List.length x.2.1 <= q92 /\ (∀ (y : q4), (q44 y) -> y.1 = dnsD x.2.1 -> ((!y.1) = true -> false = matchD x.1
  x.2.1) /\ ((!y.1) = false -> List.length x.1 <= q92 /\ (∀ (y : q4), (q44 y) -> y.1 = dnsD x.1 -> (y.1 = true -> List.length x.1 <= q92 /\ (∀ (y : q6), (q64 y) -> y.1 = lowD x.1 ->
  List.length x.2.1 <= q92 /\ (∀ (y_1 : q6), (q64 y_1) -> y_1.1 = lowD x.2.1 -> decide (y.1 = y_1.1) = matchD x.1 x.2.1) /\ True) /\ True) /\ (y.1 = false -> List.length x.1 <= q92 /\ (∀ (y :
  q4), (q44 y) -> y.1 = wildD x.1 -> ((!y.1) = true -> false = matchD x.1 x.2.1) /\ ((!y.1) = false -> List.length x.2.1 <= q92 /\ (∀ (y : q6), (q64 y) -> y.1 = lowD x.2.1 -> (List.length y.1
  < q32 /\ List.length q170 = q36) /\ (∀ (y_1 : q3), (q37 y_1) -> y_1.1 = (q169 y).1 /\ y_1.2.1 = (q169 y).2.1 /\ y_1.2.2.1 = (q169 y).2.2 -> (y_1.2.2.1 = true -> True) /\ (y_1.2.2.1 = true
  -> True) /\ (y_1.2.2.1 = true -> (y_1.2.2.1 == true) = true /\ (q33 <= q69 /\ q69 <= (lnZ x.1)) /\ True) /\ (y_1.2.2.1 = true -> (y_1.2.2.1 == true) = true /\ List.length (List.drop q68
  x.1) <= q92 /\ (∀ (y : q6), (q64 y) -> y.1 = lowD (List.drop q68 x.1) -> (y_1.2.2.1 == true) = true /\ decide (y_1.2.1 = y.1) = matchD x.1 x.2.1) /\ True) /\ (y_1.2.2.1 = !true -> false =
  matchD x.1 x.2.1)) /\ True) /\ True)) /\ True)) /\ True)) /\ True
theorem e19 : t19 = Con.vc c_host_Match GL (mkEnv ty [(25, conSem c_host_DNS), (45, conSem c_host_small), (17, conSem c_host_Wild), (46, conSem c_strings_Cut)] [] [] [0, 1, 4, 6, 7, 8, 12, 20]) {} Tryz.f19.ntmps Tryz.f19.results.toList (bodyOf Tryz.f19) := by kernel_rfl
theorem k19 : t19 := by
  unfold t19
  delta q2 q31 q92 q4 q44 q6 q64 q32 q170 q36 q3 q37 q169 q33 q69 lnZ q68 wsZ wbZ q252 q236
  rintro ⟨l, m, _⟩ hx hp
  obtain ⟨h1, h2⟩ := hp
  simp only at h1 h2
  try dsimp +instances only [dft_int, dft_sl, dft_str]
  simp only [true_and, and_true, eq_self_iff_true, implies_true, reduceCtorEq, false_implies, true_implies, decide_eq_true_eq, decide_eq_false_iff_not, beq_self_eq_true, Bool.not_eq_true', ne_eq, Decidable.not_not, List.nil_append, List.length_singleton, List.length_cons, List.length_nil, Nat.zero_add, Nat.add_zero, Nat.mul_one, and_self, beq_iff_eq, Bool.not_true, Bool.not_false, Bool.not_eq_false', Bool.cond_false_right, Bool.and_eq_true, imp_self, Bool.not_eq_true, Bool.cond_true_left, Bool.or_eq_true]
  have hb : bs { data := #[46] } = [46] := by decide
  have hd : ([46] : List Int).getD 0 0 = 46 := rfl
  rw [hb, hd]
  refine ⟨h2, ?_⟩
  rintro ⟨a, _⟩ _ ea
  simp only at ea ⊢
  rw [matchD, ← ea]
  refine ⟨fun h => by rw [h]; rfl, fun h => ⟨h1, ?_⟩⟩
  rintro ⟨b, _⟩ _ eb
  simp only at eb ⊢
  rw [h, ← eb]
  refine ⟨fun h => ⟨h1, ?_⟩, fun h => ⟨h1, ?_⟩⟩
  . rintro ⟨c, _⟩ _ ec
    refine ⟨h2, ?_⟩
    rintro ⟨d, _⟩ _ ed
    simp only at ec ed ⊢
    rw [ec, ed, h]; rfl
  . rintro ⟨c, _⟩ _ ec
    simp only at ec ⊢
    rw [h, ← ec]
    refine ⟨fun h => by rw [h]; rfl, fun h => ⟨h2, ?_⟩⟩
    rintro ⟨d, _⟩ _ ed
    simp only at ed ⊢
    subst ed
    have hll := low_len m
    refine ⟨⟨by omega, rfl⟩, ?_⟩
    rintro ⟨u, v, w, _⟩ _ ⟨eu, ev, ew⟩
    simp only at eu ev ew ⊢
    rw [h, ← ev, ← ew]
    obtain ⟨r, rfl, _⟩ := wild_form (ec.symm.trans h)
    refine ⟨fun h => ⟨h, by decide, by simp; omega⟩, fun h => ⟨h, by simp at *; omega, ?_⟩, fun h => by rw [h]; rfl⟩
    rintro ⟨x, _⟩ _ ex
    simp only at ex ⊢
    rw [h, ex]
    exact ⟨rfl, rfl⟩
theorem h19 : c_host_Match.ok Tryz.prog GL 19 := con_ok (H := {}) (mkEnv_ok (gl := GL) (l := [(25, conSem c_host_DNS), (45, conSem c_host_small), (17, conSem c_host_Wild), (46, conSem c_strings_Cut)]) (q := []) (d := []) _ tyOk (by kernel_rfl) ⟨h25.call, h45.call, h17.call, h46.call, trivial⟩ trivial trivial) (by kernel_rfl) (by kernel_rfl) (Eq.mp e19 k19)
end Go.Proofs.YtgnlcpoeepfdoaaGreatDoor
end
