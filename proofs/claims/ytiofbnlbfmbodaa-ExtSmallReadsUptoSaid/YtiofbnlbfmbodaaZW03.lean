/- Texts of a verified walk, led together: NumA, NumW. -/
import Derived.Test.YtiofbnlbfmbodaaZW02
import Derived.Test.YtiofbnlbfmbodaaZV07
import Derived.Test.YtiofbnlbfmbodaaZV06
set_option linter.unusedVariables false
set_option linter.unusedSimpArgs false
section
namespace Go.Proofs.Ytiofbnlbfmbodaa
open Go Go.Vc Go.Pl Go.Proofs
def c_r02_Bool : Con := { args := [.dat .bool], res := [.own 5 U8], pre := fun _ => True, post := fun x y => y.1 = BoolD x.1 }
def c_r02_low : Con := { args := [.dat I64, .dat I64], res := [.own 5 U8], pre := fun x => 0 ≤ x.2.1 ∧ x.2.1 ≤ 8, post := fun x y => y.1 = low x.1 x.2.1.toNat }
def c_r02_Int : Con := { args := [.dat I64], res := [.own 5 U8], pre := fun _ => True, post := fun x y => y.1 = IntD x.1 }
def c_math_bits_Reverse16 : Con := { args := [.dat (.int .u16)], res := [.dat (.int .u16)], pre := fun _ => True, post := fun x y => y.1 = (prev (x.1.toNat / 256) 8 : Int) + 256 * (prev (x.1.toNat % 256) 8 : Int) }
def c_r02_Flags : Con := { args := [.dat (.int .u16)], res := [.own 5 U8], pre := fun _ => True, post := fun x y => y.1 = FlagsD x.1.toNat }
def c_num_shortest : Con := { args := [.dat BY], res := [.dat .bool], pre := fun _ => True, post := fun x y => y.1 = ShortD x.1 }
def c_r02_Shortest : Con := { args := [.dat BY], res := [.dat .bool], pre := fun _ => True, post := fun x y => y.1 = ShortD x.1 }
def c_num_ToInt : Con := { args := [.dat BY], res := [.dat I64, .dat I64], pre := fun _ => True, post := fun x y => (y.1, y.2.1) = ToIntD x.1 }
def c_r02_ToInt : Con := { args := [.dat BY], res := [.dat I64, .dat I64], pre := fun _ => True, post := fun x y => (y.1, y.2.1) = ToIntD x.1 }
def c_num_ToBool : Con := { args := [.dat BY], res := [.dat .bool, .dat I64], pre := fun _ => True, post := fun x y => (y.1, y.2.1) = ToBoolD x.1 }
def c_num_fits : Con := { args := [.dat BY, .dat I64], res := [.dat .bool], pre := fun _ => True, post := fun x y => y.1 = FitsD x.1 x.2.1 }
def c_num_ToBits : Con := { args := [.dat BY], res := [.dat BY, .dat I64, .dat I64], pre := fun x => lenB x.1 ≤ LIM, post := fun x y => (y.1, y.2.1, y.2.2.1) = ToBitsD x.1 }
def c_num_ToFlags : Con := { args := [.dat BY], res := [.dat (.int .u16), .dat I64], pre := fun x => lenB x.1 ≤ LIM, post := fun x y => (y.1, y.2.1) = ToFlagsD x.1 }
end Go.Proofs.Ytiofbnlbfmbodaa
end
section
namespace Go.Proofs.Ytiofbnlbfmbodaa
open Go Go.Vc Go.Pl Go.Proofs
abbrev q9 := (List Int × Int × Unit)
abbrev q81 (p0 : q4) (p1 : q0) := (Int.fdiv (IntKind.wrap IntKind.u64 p0.1) ((2 : Int) ^ min (Int.toNat (wrZ ((8 : Int) * p1.1))) (64 : Nat)))
abbrev q227 (p0 : q0) := ((0 : Int) - wrZ ((1 : Int) * (2 : Int) ^ min (Int.toNat (wrZ (wrZ ((8 : Int) * p0.1) - (1 : Int)))) (64 : Nat)))
abbrev q202 (p0 : q0) (p1 : q0) := (wrZ (q227 p0) <= p1.1)
abbrev q82 (p0 : q0) (p1 : q0) := (bif decide (q202 p0 p1) then decide (p1.1 < wrZ ((1 : Int) * (2 : Int) ^ min (Int.toNat (wrZ (wrZ ((8 : Int) * p0.1) - (1 : Int)))) (64 : Nat))) else
  false)
abbrev q83 (p0 : q0) (p1 : q0) := (decide (q202 p0 p1) = true -> True)
abbrev q84 (p0 : q0) (p1 : q0) := (decide (q202 p0 p1) == true)
abbrev q85 (p0 : q0) (p1 : q0) := (wrZ (q227 p0) <= p1.1)
abbrev q86 := (bs { data := List.toArray (List.append (List.append [(0 : UInt8), (128 : UInt8), (64 : UInt8), (192 : UInt8), (32 : UInt8), (160 : UInt8), (96 : UInt8), (224 : UInt8), (16 :
  UInt8), (144 : UInt8), (80 : UInt8), (208 : UInt8), (48 : UInt8), (176 : UInt8), (112 : UInt8), (240 : UInt8), (8 : UInt8), (136 : UInt8), (72 : UInt8), (200 : UInt8), (40 : UInt8), (168 :
  UInt8), (104 : UInt8), (232 : UInt8), (24 : UInt8), (152 : UInt8), (88 : UInt8), (216 : UInt8), (56 : UInt8), (184 : UInt8), (120 : UInt8), (248 : UInt8), (4 : UInt8), (132 : UInt8), (68 :
  UInt8), (196 : UInt8), (36 : UInt8), (164 : UInt8), (100 : UInt8), (228 : UInt8), (20 : UInt8), (148 : UInt8), (84 : UInt8), (212 : UInt8), (52 : UInt8), (180 : UInt8), (116 : UInt8), (244
  : UInt8), (12 : UInt8), (140 : UInt8), (76 : UInt8), (204 : UInt8), (44 : UInt8), (172 : UInt8), (108 : UInt8), (236 : UInt8), (28 : UInt8), (156 : UInt8), (92 : UInt8), (220 : UInt8), (60
  : UInt8), (188 : UInt8), (124 : UInt8), (252 : UInt8)] [(2 : UInt8), (130 : UInt8), (66 : UInt8), (194 : UInt8), (34 : UInt8), (162 : UInt8), (98 : UInt8), (226 : UInt8), (18 : UInt8), (146
  : UInt8), (82 : UInt8), (210 : UInt8), (50 : UInt8), (178 : UInt8), (114 : UInt8), (242 : UInt8), (10 : UInt8), (138 : UInt8), (74 : UInt8), (202 : UInt8), (42 : UInt8), (170 : UInt8), (106
  : UInt8), (234 : UInt8), (26 : UInt8), (154 : UInt8), (90 : UInt8), (218 : UInt8), (58 : UInt8), (186 : UInt8), (122 : UInt8), (250 : UInt8), (6 : UInt8), (134 : UInt8), (70 : UInt8), (198
  : UInt8), (38 : UInt8), (166 : UInt8), (102 : UInt8), (230 : UInt8), (22 : UInt8), (150 : UInt8), (86 : UInt8), (214 : UInt8), (54 : UInt8), (182 : UInt8), (118 : UInt8), (246 : UInt8), (14
  : UInt8), (142 : UInt8), (78 : UInt8), (206 : UInt8), (46 : UInt8), (174 : UInt8), (110 : UInt8), (238 : UInt8), (30 : UInt8), (158 : UInt8), (94 : UInt8), (222 : UInt8), (62 : UInt8), (190
  : UInt8), (126 : UInt8), (254 : UInt8)]) (List.append [(1 : UInt8), (129 : UInt8), (65 : UInt8), (193 : UInt8), (33 : UInt8), (161 : UInt8), (97 : UInt8), (225 : UInt8), (17 : UInt8), (145
  : UInt8), (81 : UInt8), (209 : UInt8), (49 : UInt8), (177 : UInt8), (113 : UInt8), (241 : UInt8), (9 : UInt8), (137 : UInt8), (73 : UInt8), (201 : UInt8), (41 : UInt8), (169 : UInt8), (105
  : UInt8), (233 : UInt8), (25 : UInt8), (153 : UInt8), (89 : UInt8), (217 : UInt8), (57 : UInt8), (185 : UInt8), (121 : UInt8), (249 : UInt8), (5 : UInt8), (133 : UInt8), (69 : UInt8), (197
  : UInt8), (37 : UInt8), (165 : UInt8), (101 : UInt8), (229 : UInt8), (21 : UInt8), (149 : UInt8), (85 : UInt8), (213 : UInt8), (53 : UInt8), (181 : UInt8), (117 : UInt8), (245 : UInt8), (13
  : UInt8), (141 : UInt8), (77 : UInt8), (205 : UInt8), (45 : UInt8), (173 : UInt8), (109 : UInt8), (237 : UInt8), (29 : UInt8), (157 : UInt8), (93 : UInt8), (221 : UInt8), (61 : UInt8), (189
  : UInt8), (125 : UInt8), (253 : UInt8)] [(3 : UInt8), (131 : UInt8), (67 : UInt8), (195 : UInt8), (35 : UInt8), (163 : UInt8), (99 : UInt8), (227 : UInt8), (19 : UInt8), (147 : UInt8), (83
  : UInt8), (211 : UInt8), (51 : UInt8), (179 : UInt8), (115 : UInt8), (243 : UInt8), (11 : UInt8), (139 : UInt8), (75 : UInt8), (203 : UInt8), (43 : UInt8), (171 : UInt8), (107 : UInt8),
  (235 : UInt8), (27 : UInt8), (155 : UInt8), (91 : UInt8), (219 : UInt8), (59 : UInt8), (187 : UInt8), (123 : UInt8), (251 : UInt8), (7 : UInt8), (135 : UInt8), (71 : UInt8), (199 : UInt8),
  (39 : UInt8), (167 : UInt8), (103 : UInt8), (231 : UInt8), (23 : UInt8), (151 : UInt8), (87 : UInt8), (215 : UInt8), (55 : UInt8), (183 : UInt8), (119 : UInt8), (247 : UInt8), (15 : UInt8),
  (143 : UInt8), (79 : UInt8), (207 : UInt8), (47 : UInt8), (175 : UInt8), (111 : UInt8), (239 : UInt8), (31 : UInt8), (159 : UInt8), (95 : UInt8), (223 : UInt8), (63 : UInt8), (191 : UInt8),
  (127 : UInt8), (255 : UInt8)])) })
abbrev q87 (p0 : q0) := (↑(BitVec.toNat (BitVec.ofInt (16 : Nat) p0.1 &&& BitVec.ofInt (16 : Nat) (255 : Int))) : Int)
abbrev q88 := (Kd.int IntKind.u16)
abbrev q89 (p0 : q1) (p1 : q0) := (IntKind.wrap IntKind.u8 (↑(BitVec.toNat (BitVec.ofInt (8 : Nat) (List.getD (p0.1 ++ [q179]) (Int.toNat (wrZ (Int.tdiv p1.1 (8 : Int)))) q194) |||
  BitVec.ofInt (8 : Nat) (Int.fdiv (128 : Int) ((2 : Int) ^ min (Int.toNat (Int.tmod p1.1 (8 : Int))) (8 : Nat))))) : Int))
abbrev q90 (p0 : q1) (p1 : q0) := (IntKind.wrap IntKind.u8 (↑(BitVec.toNat (BitVec.ofInt (8 : Nat) (List.getD p0.1 (Int.toNat (wrZ (Int.tdiv p1.1 (8 : Int)))) q194) ||| BitVec.ofInt (8 :
  Nat) (Int.fdiv (128 : Int) ((2 : Int) ^ min (Int.toNat (Int.tmod p1.1 (8 : Int))) (8 : Nat))))) : Int))
abbrev q91 (p0 : q0) (p1 : q0) := (Int.tmod (Int.fdiv p0.1 ((2 : Int) ^ min (Int.toNat p1.1) (16 : Nat))) (2 : Int) = q193)
abbrev q92 (p0 : q0) := (Int.toNat (wrZ (Int.tdiv p0.1 (8 : Int))))
abbrev q93 (p0 : q0) := (Int.tdiv p0.1 (8 : Int))
abbrev q220 (p0 : q1) := (List.getD p0.1 (1 : Nat) (Kd.dft (Kd.int IntKind.u8)) < (128 : Int))
abbrev q203 (p0 : q1) := (bif decide (List.getD p0.1 (0 : Nat) q229 = (0 : Int)) then decide (q220 p0) else false)
abbrev q204 (p0 : q1) := (List.getD p0.1 (0 : Nat) q229 = (255 : Int))
abbrev q94 (p0 : q1) := (((q203 p0) == false && (q203 p0) == false) = true -> decide (q204 p0) = true -> ((q203 p0) == false && (q203 p0) == false && decide (q204 p0) == true) = true /\
  True)
abbrev q95 (p0 : q1) := ((q203 p0) == false && (q203 p0) == false && decide (q204 p0) == true)
abbrev q96 (p0 : q1) := ((q203 p0) = false -> ((q203 p0) == false) = true /\ True)
abbrev q97 (p0 : q1) := ((q203 p0) == false && (q203 p0) == false)
abbrev q98 (p0 : q1) := ((q203 p0) = false -> True)
abbrev q205 (p0 : q1) := (List.getD p0.1 (0 : Nat) q229 = (0 : Int))
abbrev q99 (p0 : q1) := (decide (q205 p0) = true -> (decide (q205 p0) == true) = true /\ True)
abbrev q100 (p0 : q1) := ((q203 p0) == false)
abbrev q101 (p0 : q1) := (bif decide (q205 p0) then decide (q220 p0) else false)
abbrev q102 (p0 : q1) := (decide (q205 p0) == true)
abbrev q103 (p0 : q1) := (List.getD p0.1 q182 q194 = (255 : Int))
abbrev q104 (p0 : q1) := (List.getD p0.1 q182 q194 = q179)
abbrev q184 (p0 : q1) := (wrZ (wrZ (q224 p0) * (2 : Int)) + wrZ (Int.tdiv (wrZ (q235 p0)) (128 : Int)))
abbrev q105 (p0 : q1) := (decide (wrZ (q184 p0) ≠ q179) == true)
abbrev q106 (p0 : q1) := (wrZ (q184 p0) ≠ q179)
abbrev q107 (p0 : q4) (p1 : q1) := (↑(BitVec.toNat (BitVec.ofInt (64 : Nat) (wrZ (p0.2.1 * (2 : Int) ^ (8 : Nat))) ||| BitVec.ofInt (64 : Nat) (wrZ (List.getD (List.drop (1 : Nat) p1.1)
  (Int.toNat p0.1) q194)))) : Int)
abbrev q108 (p0 : q1) := (q179 <= q193 /\ q193 <= (lnZ p0.1))
abbrev q109 (p0 : q1) := (lnZ (List.drop (1 : Nat) p0.1))
abbrev q110 (p0 : q4) (p1 : q1) := (wrZ (p0.2.1 * (256 : Int)) + wrZ (List.getD p1.1 (Int.toNat p0.1) q194))
abbrev q206 (p0 : q1) := (List.getD p0.1 (0 : Nat) q229 ≠ (0 : Int))
abbrev q111 (p0 : q1) := ((decide ((lnZ p0.1) ≠ q193) == false && decide ((lnZ p0.1) ≠ q193) == false) = true -> decide (q206 p0) = true -> (decide ((lnZ p0.1) ≠ q193) == false && decide
  ((lnZ p0.1) ≠ q193) == false && decide (q206 p0) == true) = true /\ True)
abbrev q112 (p0 : q1) := (bif decide ((lnZ p0.1) ≠ q193) then true else bif decide (q206 p0) then decide (List.getD p0.1 q182 q194 ≠ (255 : Int)) else false)
abbrev q113 (p0 : q1) := (decide ((lnZ p0.1) ≠ q193) == false && decide ((lnZ p0.1) ≠ q193) == false && decide (q206 p0) == true)
abbrev q114 (p0 : q1) := (decide ((lnZ p0.1) ≠ q193) == false && decide ((lnZ p0.1) ≠ q193) == false)
abbrev q115 (p0 : q1) := (List.getD p0.1 q182 q194 ≠ q179)
abbrev q116 (p0 : q1) := ((lnZ p0.1) ≠ q193)
abbrev q117 (p0 : q9) := (wyZ p0.1 /\ wiZ p0.2.1 /\ True)
abbrev q186 (p0 : q1) := (lenB (List.drop (1 : Nat) p0.1) <= (1000000000 : Nat) /\ (∀ (y : q1), (wyZ y.1 /\ True) -> y.1 = List.drop (1 : Nat) p0.1 -> (y.1, wrZ (q224 p0), (0 : Int)) =
  ToBitsD p0.1) /\ True)
abbrev q118 (p0 : q1) := ((q186 p0) /\ True)
abbrev q119 (p0 : q1) := (lenB (List.drop (1 : Nat) p0.1) <= (1000000000 : Nat) /\ (∀ (y : q1), (wyZ y.1 /\ True) -> y.1 = List.drop (1 : Nat) p0.1 -> (y.1, wrZ (q224 p0), q179) = ToBitsD
  p0.1 /\ True) /\ True)
abbrev q120 (p0 : q1) := (decide ((lnZ p0.1) = q179) == false)
abbrev q121 := (2000000 : Nat)
abbrev q122 (p0 : List Int × Int × Int × Unit) := (bif decide (q179 < (lnZ p0.1)) then decide (IntKind.wrap IntKind.u8 (↑(BitVec.toNat (BitVec.ofInt (8 : Nat) (List.getD p0.1 (Int.toNat
  (wrZ ((lnZ p0.1) - q193))) q194) &&& BitVec.ofInt (8 : Nat) (IntKind.wrap IntKind.u8 (q193 * (2 : Int) ^ min (Int.toNat p0.2.1) (8 : Nat))))) : Int) = q179) else false)
abbrev q123 (p0 : q4) (p1 : List Int × Int × Int × Unit) := (↑(BitVec.toNat (BitVec.ofInt (16 : Nat) p0.2.1 ||| BitVec.ofInt (16 : Nat) (IntKind.wrap IntKind.u16 (IntKind.wrap IntKind.u16
  (List.getD p1.1 (Int.toNat p0.1) q194) * (2 : Int) ^ min (Int.toNat (wrZ ((8 : Int) - wrZ ((8 : Int) * p0.1)))) (16 : Nat))))) : Int)
abbrev q124 (p0 : List Int × Int × Int × Unit) := (decide (q179 < (lnZ p0.1)) = true -> (decide (q179 < (lnZ p0.1)) == true) = true /\ True)
abbrev q125 (p0 : List Int × Int × Int × Unit) := (decide (q179 < (lnZ p0.1)) == true)
abbrev q219 := (-1 : Int)
abbrev q185 (p0 : q9) := (p0.2.1 = (0 : Int))
def t35 : Prop :=
  ∀ (x : q7), (wbZ x.1 /\ True) -> True -> (x.1 = true -> [q18] = BoolD x.1) /\ (x.1 = false -> [q21] = BoolD x.1)
theorem e35 : t35 = Con.vc c_r02_Bool GL (mkEnv ty [] [] [] [0, 2, 3]) {} Try.f35.ntmps Try.f35.results.toList (bodyOf Try.f35) := by kernel_rfl
theorem k35 : t35 := by
  unfold t35
  delta q7 wbZ q18 q21
  intro x _ _
  exact ⟨fun h => by rw [h]; rfl, fun h => by rw [h]; rfl⟩
theorem h35 : c_r02_Bool.ok Try.prog GL 35 := con_ok (H := {}) (mkEnv_ok (gl := GL) (l := []) (q := []) (d := []) _ tyOk (by kernel_rfl) trivial trivial trivial) (by kernel_rfl) (by kernel_rfl) (Eq.mp e35 k35)
def t116 : Prop :=
  ∀ (x : q4), (q33 x) -> q21 <= x.2.1 /\ x.2.1 <= q22 -> ∃ (I : q5), ∃ (μ : q6), (Value.slice none q28 q28 = Value.slice none q28 q28 /\ x.1 = x.1 /\ x.2.1 = x.2.1 /\ I (wrZ (x.2.1 - q37),
  ()) ([], ())) /\ ∀ (y : q0) (z : q1), (q17 y) -> (q27 z) -> I y z -> (decide (q175 y) = true -> q21 <= wrZ (q22 * y.1) /\ q28 < q29 /\ (List.length z.1 + List.length [IntKind.wrap
  IntKind.u8 (q81 x y)]) * q29 <= q25 /\ List.length z.1 + List.length [IntKind.wrap IntKind.u8 (q81 x y)] <= q24 /\ Value.slice none q28 q28 = Value.slice none q28 q28 /\ x.1 = x.1 /\ x.2.1
  = x.2.1 /\ I (wrZ (y.1 - q37), ()) (z.1 ++ [IntKind.wrap IntKind.u8 (q81 x y)], ()) /\ μ (wrZ (y.1 - q37), ()) (z.1 ++ [IntKind.wrap IntKind.u8 (q81 x y)], ()) < μ y z) /\ (decide (q175 y)
  = false -> z.1 = low x.1 (Int.toNat x.2.1))
theorem e116 : t116 = Con.vc c_r02_low GL (mkEnv ty [] [] [] [0, 1, 4, 5, 6, 10]) {} Try.f116.ntmps Try.f116.results.toList (bodyOf Try.f116) := by kernel_rfl
theorem k116 : t116 := by
  unfold t116
  delta q4 q33 q21 q22 q5 q6 q28 wrZ q37 q0 q1 q17 q27 q175 q29 q81 q25 q24 wiZ wyZ
  rintro ⟨x, n, u⟩ hx hp
  simp only at hx hp ⊢
  have w0 : IntKind.wrap .i64 (n - 1) = n - 1 := by rw [IntKind.wrap_i64]; omega
  refine ⟨fun y z => -1 ≤ y.1 ∧ y.1 ≤ n - 1 ∧ z.1 ++ low x (y.1 + 1).toNat = low x n.toNat, fun y _ => (y.1 + 1).toNat, ⟨by trivial, by trivial, by trivial, ?_⟩, ?_⟩
  . rw [w0]
    exact ⟨by omega, by omega, by simp⟩
  . rintro ⟨i, u⟩ ⟨z, u'⟩ hw hw2 ⟨h1, h2, h3⟩
    simp only at h1 h2 h3 hw hw2 ⊢
    refine ⟨fun hc => ?_, fun hc => ?_⟩
    . have hc := of_decide_eq_true hc
      obtain ⟨m, rfl⟩ : ∃ m : Nat, i = m := ⟨i.toNat, by omega⟩
      have hl := congrArg List.length h3
      rw [List.length_append, nlow_len, nlow_len] at hl
      rw [byte_u64 x m (by omega)]
      have hwr : IntKind.wrap .i64 ((m : Int) - 1) = m - 1 := by rw [IntKind.wrap_i64]; omega
      refine ⟨by rw [IntKind.wrap_i64]; omega, by decide, by simp only [List.length_singleton]; omega, by simp only [List.length_singleton]; omega, by trivial, by trivial, by trivial, ?_, ?_⟩
      . rw [hwr]
        refine ⟨by omega, by omega, ?_⟩
        rw [← h3, show ((m : Int) + 1).toNat = m + 1 by omega, show ((m : Int) - 1 + 1).toNat = m by omega]
        simp [low]
      . rw [hwr]; omega
    . have hc := of_decide_eq_false hc
      have : i = -1 := by omega
      subst this
      simpa [low] using h3
theorem h116 : c_r02_low.ok Try.prog GL 116 := con_ok (H := {}) (mkEnv_ok (gl := GL) (l := []) (q := []) (d := []) _ tyOk (by kernel_rfl) trivial trivial trivial) (by kernel_rfl) (by kernel_rfl) (Eq.mp e116 k116)
def t92 : Prop :=
  ∀ (x : q0), (q17 x) -> True -> ∃ (I : q5), ∃ (μ : q6), (x.1 = x.1 /\ I (q37, ()) ([], ())) /\ ∀ (y : q0) (z : q1), (q17 y) -> (q27 z) -> I y z -> (decide (y.1 < q22) = true -> q21 <= wrZ
  (wrZ ((8 : Int) * y.1) - (1 : Int)) /\ (q83 y x) /\ (q83 y x) /\ (decide (q85 y x) = true -> (q84 y x) = true /\ (q84 y x) = true /\ True) /\ (decide (q85 y x) = true -> (q84 y x) = true)
  /\ ((q82 y x) = true -> (q21 <= y.1 /\ y.1 <= q22) /\ (∀ (y_1 : q1), (q27 y_1) -> y_1.1 = low x.1 (Int.toNat y.1) -> y_1.1 = IntD x.1) /\ True) /\ ((q82 y x) = false -> x.1 = x.1 /\ I (wrZ
  (y.1 + q37), ()) (z.1, ()) /\ μ (wrZ (y.1 + q37), ()) (z.1, ()) < μ y z)) /\ (decide (y.1 < q22) = false -> (q21 <= q22 /\ q22 <= q22) /\ (∀ (y : q1), (q27 y) -> y.1 = low x.1 (Int.toNat
  q22) -> y.1 = IntD x.1) /\ True)
theorem e92 : t92 = Con.vc c_r02_Int GL (mkEnv ty [(116, conSem c_r02_low)] [] [] [0, 2, 3, 4, 6, 21]) {} Try.f92.ntmps Try.f92.results.toList (bodyOf Try.f92) := by kernel_rfl
theorem k92 : t92 := by
  unfold t92
  delta q0 q17 q5 q6 q37 q1 q27 q22 q21 wrZ q83 q85 q84 q82 wiZ wyZ q202 q227
  rintro ⟨x, u⟩ hx hp
  simp only at hx hp ⊢
  have hx2 : InR .i64 x := hx.1
  have hx3 : fit x 8 := fit8 hx2
  refine ⟨fun y z => 1 ≤ y.1 ∧ y.1 ≤ 8 ∧ ∀ m : Nat, (m : Int) < y.1 → 1 ≤ m → ¬ fit x m, fun y _ => (8 - y.1).toNat, ⟨by trivial, by omega, by omega, fun m h1 h2 => by omega⟩, ?_⟩
  rintro ⟨i, u⟩ ⟨z, u'⟩ hw hw2 ⟨h1, h2, h3⟩
  simp only at h1 h2 h3 hw hw2 ⊢
  refine ⟨fun hc => ?_, fun hc => ?_⟩
  . have hc := of_decide_eq_true hc
    obtain ⟨n, rfl⟩ : ∃ n : Nat, i = n := ⟨i.toNat, by omega⟩
    have hwr : IntKind.wrap .i64 ((n : Int) + 1) = n + 1 := by rw [IntKind.wrap_i64]; omega
    have e1 : IntKind.wrap .i64 (1 * 2 ^ min (IntKind.wrap .i64 (IntKind.wrap .i64 (8 * (n : Int)) - 1)).toNat 64) = 2 ^ (8 * n - 1) ∧ IntKind.wrap .i64 (0 - 2 ^ (8 * n - 1)) = -2 ^ (8 * n - 1) := by
      match n, h1, hc with
      | 1, _, _ | 2, _, _ | 3, _, _ | 4, _, _ | 5, _, _ | 6, _, _ | 7, _, _ => decide
      | 0, h, _ => exact absurd h (by decide)
      | n + 8, _, h => omega
    rw [e1.1, e1.2]
    refine ⟨by rw [IntKind.wrap_i64, IntKind.wrap_i64]; omega, by simp, by simp, by simp, by simp, fun hb => ?_, fun hb => ?_⟩
    . refine ⟨by omega, fun y _ e => ?_, trivial⟩
      rw [e, IntD, wide_eq x n (by omega) (by omega) (by simpa [fit] using hb) ?_]
      . rfl
      . by_cases e : n = 1
        . exact .inl e
        . exact .inr (h3 (n - 1) (by omega) (by omega))
    . refine ⟨by trivial, ?_, by rw [hwr]; omega⟩
      rw [hwr]
      refine ⟨by omega, by omega, fun m hm h1m => ?_⟩
      by_cases e : m = n
      . subst e
        simpa [fit] using hb
      . exact h3 m (by omega) h1m
  . have hc := of_decide_eq_false hc
    have : i = 8 := by omega
    subst this
    refine ⟨by decide, fun y _ e => ?_, trivial⟩
    rw [e, IntD, wide_eq x 8 (by omega) (by omega) hx3 (.inr (h3 7 (by omega) (by omega)))]
    rfl
theorem h92 : c_r02_Int.ok Try.prog GL 92 := con_ok (H := {}) (mkEnv_ok (gl := GL) (l := [(116, conSem c_r02_low)]) (q := []) (d := []) _ tyOk (by kernel_rfl) ⟨h116.call, trivial⟩ trivial trivial) (by kernel_rfl) (by kernel_rfl) (Eq.mp e92 k92)
def t95 : Prop :=
  ∀ (x : q0), (Kd.wf q88 x.1 /\ True) -> True -> q21 <= q22 /\ (q21 <= Int.fdiv x.1 (q23 ^ (8 : Nat)) /\ Int.fdiv x.1 (q23 ^ (8 : Nat)) < (↑(256 : Nat) : Int)) /\ (q21 <= IntKind.wrap
  IntKind.u16 (q87 x) /\ IntKind.wrap IntKind.u16 (q87 x) < (↑(256 : Nat) : Int)) /\ q21 <= q22 /\ IntKind.wrap IntKind.u16 (↑(BitVec.toNat (BitVec.ofInt (16 : Nat) (IntKind.wrap IntKind.u16
  (List.getD q86 (Int.toNat (Int.fdiv x.1 (q23 ^ (8 : Nat)))) q21)) ||| BitVec.ofInt (16 : Nat) (IntKind.wrap IntKind.u16 (IntKind.wrap IntKind.u16 (List.getD q86 (Int.toNat (IntKind.wrap
  IntKind.u16 (q87 x))) q21) * q23 ^ (8 : Nat))))) : Int) = (↑(prev (Int.toNat x.1 / (256 : Nat)) (8 : Nat)) : Int) + q20 * (↑(prev (Int.toNat x.1 % (256 : Nat)) (8 : Nat)) : Int)
theorem e95 : t95 = Con.vc c_math_bits_Reverse16 GL (mkEnv ty [] [] [] [0, 2]) {} Try.f95.ntmps Try.f95.results.toList (bodyOf Try.f95) := by kernel_rfl
theorem k95 : t95 := by
  unfold t95
  delta q0 q88 q21 q22 q23 q87 q86 q20
  rintro ⟨x, _⟩ hx hp
  obtain ⟨n, rfl, hn⟩ := u16_nat hx.1
  simp only [true_and, and_true, eq_self_iff_true, implies_true, reduceCtorEq, false_implies, true_implies, decide_eq_true_eq, decide_eq_false_iff_not, beq_self_eq_true, Bool.not_eq_true', ne_eq, Decidable.not_not, List.nil_append, List.length_singleton, List.length_cons, List.length_nil, Nat.zero_add, Nat.add_zero, Nat.mul_one, and_self, beq_iff_eq, Bool.not_true, Bool.not_false, Bool.not_eq_false', Bool.cond_false_right, Bool.and_eq_true, imp_self, Bool.not_eq_true, Bool.cond_true_left, Bool.or_eq_true, fdiv8, Go.Pl.u16_and n hn, Int.toNat_natCast]
  have tab : ∀ i : Fin 256, List.getD (bs { data := List.toArray (List.append (List.append [(0 : UInt8), (128 : UInt8), (64 : UInt8), (192 : UInt8), (32 : UInt8), (160 : UInt8), (96 : UInt8), (224 : UInt8), (16 : UInt8), (144 : UInt8), (80 : UInt8), (208 : UInt8), (48 : UInt8), (176 : UInt8), (112 : UInt8), (240 : UInt8), (8 : UInt8), (136 : UInt8), (72 : UInt8), (200 : UInt8), (40 : UInt8), (168 : UInt8), (104 : UInt8), (232 : UInt8), (24 : UInt8), (152 : UInt8), (88 : UInt8), (216 : UInt8), (56 : UInt8), (184 : UInt8), (120 : UInt8), (248 : UInt8), (4 : UInt8), (132 : UInt8), (68 : UInt8), (196 : UInt8), (36 : UInt8), (164 : UInt8), (100 : UInt8), (228 : UInt8), (20 : UInt8), (148 : UInt8), (84 : UInt8), (212 : UInt8), (52 : UInt8), (180 : UInt8), (116 : UInt8), (244 : UInt8), (12 : UInt8), (140 : UInt8), (76 : UInt8), (204 : UInt8), (44 : UInt8), (172 : UInt8), (108 : UInt8), (236 : UInt8), (28 : UInt8), (156 : UInt8), (92 : UInt8), (220 : UInt8), (60 : UInt8), (188 : UInt8), (124 : UInt8), (252 : UInt8)] [(2 : UInt8), (130 : UInt8), (66 : UInt8), (194 : UInt8), (34 : UInt8), (162 : UInt8), (98 : UInt8), (226 : UInt8), (18 : UInt8), (146 : UInt8), (82 : UInt8), (210 : UInt8), (50 : UInt8), (178 : UInt8), (114 : UInt8), (242 : UInt8), (10 : UInt8), (138 : UInt8), (74 : UInt8), (202 : UInt8), (42 : UInt8), (170 : UInt8), (106 : UInt8), (234 : UInt8), (26 : UInt8), (154 : UInt8), (90 : UInt8), (218 : UInt8), (58 : UInt8), (186 : UInt8), (122 : UInt8), (250 : UInt8), (6 : UInt8), (134 : UInt8), (70 : UInt8), (198 : UInt8), (38 : UInt8), (166 : UInt8), (102 : UInt8), (230 : UInt8), (22 : UInt8), (150 : UInt8), (86 : UInt8), (214 : UInt8), (54 : UInt8), (182 : UInt8), (118 : UInt8), (246 : UInt8), (14 : UInt8), (142 : UInt8), (78 : UInt8), (206 : UInt8), (46 : UInt8), (174 : UInt8), (110 : UInt8), (238 : UInt8), (30 : UInt8), (158 : UInt8), (94 : UInt8), (222 : UInt8), (62 : UInt8), (190 : UInt8), (126 : UInt8), (254 : UInt8)]) (List.append [(1 : UInt8), (129 : UInt8), (65 : UInt8), (193 : UInt8), (33 : UInt8), (161 : UInt8), (97 : UInt8), (225 : UInt8), (17 : UInt8), (145 : UInt8), (81 : UInt8), (209 : UInt8), (49 : UInt8), (177 : UInt8), (113 : UInt8), (241 : UInt8), (9 : UInt8), (137 : UInt8), (73 : UInt8), (201 : UInt8), (41 : UInt8), (169 : UInt8), (105 : UInt8), (233 : UInt8), (25 : UInt8), (153 : UInt8), (89 : UInt8), (217 : UInt8), (57 : UInt8), (185 : UInt8), (121 : UInt8), (249 : UInt8), (5 : UInt8), (133 : UInt8), (69 : UInt8), (197 : UInt8), (37 : UInt8), (165 : UInt8), (101 : UInt8), (229 : UInt8), (21 : UInt8), (149 : UInt8), (85 : UInt8), (213 : UInt8), (53 : UInt8), (181 : UInt8), (117 : UInt8), (245 : UInt8), (13 : UInt8), (141 : UInt8), (77 : UInt8), (205 : UInt8), (45 : UInt8), (173 : UInt8), (109 : UInt8), (237 : UInt8), (29 : UInt8), (157 : UInt8), (93 : UInt8), (221 : UInt8), (61 : UInt8), (189 : UInt8), (125 : UInt8), (253 : UInt8)] [(3 : UInt8), (131 : UInt8), (67 : UInt8), (195 : UInt8), (35 : UInt8), (163 : UInt8), (99 : UInt8), (227 : UInt8), (19 : UInt8), (147 : UInt8), (83 : UInt8), (211 : UInt8), (51 : UInt8), (179 : UInt8), (115 : UInt8), (243 : UInt8), (11 : UInt8), (139 : UInt8), (75 : UInt8), (203 : UInt8), (43 : UInt8), (171 : UInt8), (107 : UInt8), (235 : UInt8), (27 : UInt8), (155 : UInt8), (91 : UInt8), (219 : UInt8), (59 : UInt8), (187 : UInt8), (123 : UInt8), (251 : UInt8), (7 : UInt8), (135 : UInt8), (71 : UInt8), (199 : UInt8), (39 : UInt8), (167 : UInt8), (103 : UInt8), (231 : UInt8), (23 : UInt8), (151 : UInt8), (87 : UInt8), (215 : UInt8), (55 : UInt8), (183 : UInt8), (119 : UInt8), (247 : UInt8), (15 : UInt8), (143 : UInt8), (79 : UInt8), (207 : UInt8), (47 : UInt8), (175 : UInt8), (111 : UInt8), (239 : UInt8), (31 : UInt8), (159 : UInt8), (95 : UInt8), (223 : UInt8), (63 : UInt8), (191 : UInt8), (127 : UInt8), (255 : UInt8)])) }) i.val (0 : Int) = (prev i.val 8 : Int) := by decide +kernel
  rw [tab ⟨n / 256, by omega⟩, tab ⟨n % 256, by omega⟩]
  exact ⟨by decide, by omega, by omega, by decide, Go.Pl.u16_or _ _ (prev_lt _ (by omega)) (prev_lt _ (by omega))⟩
theorem h95 : c_math_bits_Reverse16.ok Try.prog GL 95 := con_ok (H := {}) (mkEnv_ok (gl := GL) (l := []) (q := []) (d := []) _ tyOk (by kernel_rfl) trivial trivial trivial) (by kernel_rfl) (by kernel_rfl) (Eq.mp e95 k95)
def t97 : Prop :=
  ∀ (x : q0), (Kd.wf q88 x.1 /\ True) -> True -> ∃ (I : q2), ∃ (μ : q3), (Value.slice none q28 q28 = Value.slice none q28 q28 /\ x.1 = x.1 /\ I (q21, q219, ()) ()) /\ ∀ (y : q4) (z : Unit),
  (q33 y) -> True -> I y z -> (decide (y.1 < (16 : Int)) = true -> q21 <= y.1 /\ q23 ≠ q21 /\ (decide (Int.tmod (Int.fdiv x.1 (q23 ^ min (Int.toNat y.1) (16 : Nat))) q23 = q37) = true ->
  Value.slice none q28 q28 = Value.slice none q28 q28 /\ x.1 = x.1 /\ I (wrZ (q35 y), y.1, ()) () /\ μ (wrZ (q35 y), y.1, ()) () < μ y z) /\ (decide (Int.tmod (Int.fdiv x.1 (q23 ^ min
  (Int.toNat y.1) (16 : Nat))) q23 = q37) = false -> Value.slice none q28 q28 = Value.slice none q28 q28 /\ x.1 = x.1 /\ I (wrZ (q35 y), y.2.1, ()) () /\ μ (wrZ (q35 y), y.2.1, ()) () < μ y
  z)) /\ (decide (y.1 < (16 : Int)) = false -> ∃ (I : q5), ∃ (μ : q6), (Value.bool false = Value.bool false /\ y.1 = y.1 /\ y.2.1 = y.2.1 /\ Value.slice none q28 q28 = Value.slice none q28
  q28 /\ x.1 = x.1 /\ I (q21, ()) ([], ())) /\ ∀ (y_1 : q0) (z : q1), (q17 y_1) -> (q27 z) -> I y_1 z -> (decide (y_1.1 <= y.2.1) = true -> q22 ≠ q21 /\ (decide (Int.tmod y_1.1 q22 = q21) =
  true -> q28 < q29 /\ (List.length z.1 + q29) * q29 <= q25 /\ List.length z.1 + q29 <= q24 /\ q21 <= y_1.1 /\ q23 ≠ q21 /\ (decide (q91 x y_1) = true -> q22 ≠ q21 /\ q22 ≠ q21 /\ (q21 <= wrZ
  (q93 y_1) /\ wrZ (q93 y_1) < (lnZ (z.1 ++ [q21]))) /\ q22 ≠ q21 /\ q21 <= Int.tmod y_1.1 q22 /\ (q21 <= wrZ (q93 y_1) /\ wrZ (q93 y_1) < (lnZ (z.1 ++ [q21]))) /\ Value.bool false =
  Value.bool false /\ y.1 = y.1 /\ y.2.1 = y.2.1 /\ Value.slice none q28 q28 = Value.slice none q28 q28 /\ x.1 = x.1 /\ I (wrZ (y_1.1 + q37), ()) (List.set (z.1 ++ [q21]) (q92 y_1) (q89 z
  y_1), ()) /\ μ (wrZ (y_1.1 + q37), ()) (List.set (z.1 ++ [q21]) (q92 y_1) (q89 z y_1), ()) < μ y_1 z) /\ (decide (q91 x y_1) = false -> Value.bool false = Value.bool false /\ y.1 = y.1 /\
  y.2.1 = y.2.1 /\ Value.slice none q28 q28 = Value.slice none q28 q28 /\ x.1 = x.1 /\ I (wrZ (y_1.1 + q37), ()) (z.1 ++ [q21], ()) /\ μ (wrZ (y_1.1 + q37), ()) (z.1 ++ [q21], ()) < μ y_1 z))
  /\ (decide (Int.tmod y_1.1 q22 = q21) = false -> q21 <= y_1.1 /\ q23 ≠ q21 /\ (decide (q91 x y_1) = true -> q22 ≠ q21 /\ q22 ≠ q21 /\ (q21 <= wrZ (q93 y_1) /\ wrZ (q93 y_1) < (lnZ z.1)) /\
  q22 ≠ q21 /\ q21 <= Int.tmod y_1.1 q22 /\ (q21 <= wrZ (q93 y_1) /\ wrZ (q93 y_1) < (lnZ z.1)) /\ Value.bool false = Value.bool false /\ y.1 = y.1 /\ y.2.1 = y.2.1 /\ Value.slice none q28
  q28 = Value.slice none q28 q28 /\ x.1 = x.1 /\ I (wrZ (y_1.1 + q37), ()) (List.set z.1 (q92 y_1) (q90 z y_1), ()) /\ μ (wrZ (y_1.1 + q37), ()) (List.set z.1 (q92 y_1) (q90 z y_1), ()) < μ
  y_1 z) /\ (decide (q91 x y_1) = false -> Value.bool false = Value.bool false /\ y.1 = y.1 /\ y.2.1 = y.2.1 /\ Value.slice none q28 q28 = Value.slice none q28 q28 /\ x.1 = x.1 /\ I (wrZ
  (y_1.1 + q37), ()) (z.1, ()) /\ μ (wrZ (y_1.1 + q37), ()) (z.1, ()) < μ y_1 z))) /\ (decide (y_1.1 <= y.2.1) = false -> (decide (q21 <= y.2.1) = true -> q22 ≠ q21 /\ q28 < q29 /\
  (List.length [IntKind.wrap IntKind.u8 (wrZ ((7 : Int) - Int.tmod y.2.1 q22))] + List.length z.1) * q29 <= q25 /\ List.length [IntKind.wrap IntKind.u8 (wrZ ((7 : Int) - Int.tmod y.2.1 q22))]
  + List.length z.1 <= q24 /\ [IntKind.wrap IntKind.u8 (wrZ ((7 : Int) - Int.tmod y.2.1 q22))] ++ z.1 = FlagsD (Int.toNat x.1)) /\ (decide (q21 <= y.2.1) = false -> q28 < q29 /\ (q29 +
  List.length z.1) * q29 <= q25 /\ q29 + List.length z.1 <= q24 /\ [IntKind.wrap IntKind.u8 q21] ++ z.1 = FlagsD (Int.toNat x.1))))
theorem e97 : t97 = Con.vc c_r02_Flags GL (mkEnv ty [] [] [] [0, 2, 3, 4, 5, 6, 7, 9, 16, 20, 25, 33, 48]) {} Try.f97.ntmps Try.f97.results.toList (bodyOf Try.f97) := by kernel_rfl
theorem k97 : t97 := by
  unfold t97
  delta q0 q88 q2 q3 q28 q21 q219 q4 q33 q23 q37 wrZ q35 q5 q6 q1 q17 q27 q22 q29 q25 q24 q91 q93 lnZ q92 q89 q90 wiZ q193 wyZ q179 q194 q221
  rintro ⟨x, _⟩ hx hp
  obtain ⟨n, rfl, hn⟩ := u16_nat hx.1
  simp only [true_and, and_true, eq_self_iff_true, implies_true, reduceCtorEq, false_implies, true_implies, decide_eq_true_eq, decide_eq_false_iff_not, beq_self_eq_true, Bool.not_eq_true', ne_eq, Decidable.not_not, List.nil_append, List.length_singleton, List.length_cons, List.length_nil, Nat.zero_add, Nat.add_zero, Nat.mul_one, and_self, beq_iff_eq, Bool.not_true, Bool.not_false, Bool.not_eq_false', Bool.cond_false_right, Bool.and_eq_true, imp_self, Bool.not_eq_true, Bool.cond_true_left, Bool.or_eq_true, Int.toNat_natCast]
  refine ⟨fun y _ => 0 ≤ y.1 ∧ y.1 ≤ 16 ∧ y.2.1 = (lastb n y.1.toNat : Int) - 1, fun y _ => (16 - y.1).toNat, ⟨by omega, by omega, rfl⟩, ?_⟩
  rintro ⟨i, l, _⟩ _ hw ⟨h1, h2, h3⟩
  simp only at h1 h2 h3 hw ⊢
  obtain ⟨j, rfl⟩ : ∃ j : Nat, i = j := ⟨i.toNat, by omega⟩
  rw [Int.toNat_natCast] at h3 ⊢
  refine ⟨fun hc => ⟨by omega, by decide, ?_, ?_⟩, fun hc => ?_⟩
  . rw [bitI n j (by omega), wrapk _ (by omega) (by omega)]
    refine fun hb => ⟨⟨by omega, by omega, ?_⟩, by omega⟩
    rw [show ((j : Int) + 1).toNat = j + 1 by omega]
    simp only [lastb]
    rw [if_pos (by omega)]
    omega
  . rw [bitI n j (by omega), wrapk _ (by omega) (by omega)]
    refine fun hb => ⟨⟨by omega, by omega, ?_⟩, by omega⟩
    rw [show ((j : Int) + 1).toNat = j + 1 by omega]
    simp only [lastb]
    rw [if_neg (by omega)]
    exact h3
  . have : j = 16 := by omega
    subst this
    have hL := lastb_le n 16
    generalize eL : lastb n 16 = L at h3 hL
    refine ⟨fun y z => 0 ≤ y.1 ∧ y.1 ≤ L ∧ z.1 = bytesAt n y.1.toNat, fun y _ => (L - y.1).toNat, ⟨by omega, by omega, rfl⟩, ?_⟩
    rintro ⟨i, _⟩ ⟨z, _⟩ hwi hwz ⟨g1, g2, g3⟩
    simp only at g1 g2 g3 hwi hwz ⊢
    obtain ⟨j, rfl⟩ : ∃ j : Nat, i = j := ⟨i.toNat, by omega⟩
    rw [Int.toNat_natCast] at g3 ⊢
    subst g3
    have hlen := bytesAt_len n j
    refine ⟨fun hc => ?_, fun hc => ⟨fun h0 => ⟨by decide, by decide, by omega, by omega, ?_⟩, fun h0 => ⟨by decide, by omega, by omega, ?_⟩⟩⟩
    . have em : (j : Int).tmod 8 = ((j % 8 : Nat) : Int) := by rw [Int.tmod_eq_emod_of_nonneg (by omega)]; rfl
      have ed : (j : Int).tdiv 8 = ((j / 8 : Nat) : Int) := by rw [Int.tdiv_eq_ediv_of_nonneg (by omega)]; rfl
      rw [em, ed, bitI n j (by omega), wrapk ((j / 8 : Nat) : Int) (by omega) (by omega), wrapk ((j : Int) + 1) (by omega) (by omega), Int.toNat_natCast, Int.toNat_natCast, show ((j : Int) + 1).toNat = j + 1 by omega]
      have hd : Kd.dft (Kd.int .u8) = (0 : Int) := rfl
      rw [hd]
      refine ⟨by decide, fun hm => ⟨by decide, by omega, by omega, by omega, by decide, fun hb => ?_, fun hb => ?_⟩, fun hm => ⟨by omega, by decide, fun hb => ?_, fun hb => ?_⟩⟩
      . have hz := bytes_set n j hn (by omega) (bytesAt n j ++ [0]) (by rw [if_pos (by omega)]) (by omega)
        exact ⟨by decide, by decide, ⟨by omega, by have := hz.2; omega⟩, by decide, by omega, ⟨by omega, by have := hz.2; omega⟩, ⟨by omega, by omega, hz.1⟩, by omega⟩
      . have hz := bytes_skip n j (by omega) (by omega)
        rw [if_pos (by omega)] at hz
        exact ⟨⟨by omega, by omega, hz⟩, by omega⟩
      . have hz := bytes_set n j hn (by omega) (bytesAt n j) (by rw [if_neg (by omega)]) (by omega)
        exact ⟨by decide, by decide, ⟨by omega, by have := hz.2; omega⟩, by decide, by omega, ⟨by omega, by have := hz.2; omega⟩, ⟨by omega, by omega, hz.1⟩, by omega⟩
      . have hz := bytes_skip n j (by omega) (by omega)
        rw [if_neg (by omega)] at hz
        exact ⟨⟨by omega, by omega, hz⟩, by omega⟩
    . have hj : j = L := by omega
      have := (flags_end n hn).2 (by omega)
      rw [hj, h3, ← eL]
      exact this
    . have hj : j = 0 := by omega
      have := (flags_end n hn).1 (by omega)
      rw [hj]
      exact this
theorem h97 : c_r02_Flags.ok Try.prog GL 97 := con_ok (H := {}) (mkEnv_ok (gl := GL) (l := []) (q := []) (d := []) _ tyOk (by kernel_rfl) trivial trivial trivial) (by kernel_rfl) (by kernel_rfl) (Eq.mp e97 k97)
def t91 : Prop :=
  ∀ (x : q1), (q27 x) -> True -> (decide ((lnZ x.1) < q23) = true -> decide ((lnZ x.1) = q37) = ShortD x.1) /\ (decide ((lnZ x.1) < q23) = false -> (q57 x) /\ (decide (q104 x) = true -> True)
  /\ (decide (q104 x) = true -> (q102 x) = true /\ (q58 x) /\ True) /\ (q99 x) /\ (q99 x) /\ (decide (q104 x) = true -> (q102 x) = true) /\ (q98 x) /\ ((q101 x) = false -> (q100 x) = true /\
  (q57 x) /\ True) /\ (q96 x) /\ (q96 x) /\ (q98 x) /\ ((q97 x) = true -> decide (q103 x) = true -> True) /\ ((q97 x) = true -> decide (q103 x) = true -> (q95 x) = true /\ (q58 x) /\ True) /\
  (q94 x) /\ (q94 x) /\ ((q101 x) = false -> (q97 x) = true /\ (decide (q103 x) = true -> (q95 x) = true) /\ True) /\ ((q101 x) = false -> (q100 x) = true) /\ (!bif bif decide (q104 x) then
  decide (q220 x) else false then true else bif decide (q103 x) then decide (q19 <= List.getD x.1 q29 q80) else false) = ShortD x.1)
theorem e91 : t91 = Con.vc c_num_shortest GL (mkEnv ty [] [] [] [0, 2, 5]) {} Try.f91.ntmps Try.f91.results.toList (bodyOf Try.f91) := by kernel_rfl
theorem k91 : t91 := by
  unfold t91
  delta q1 q27 lnZ q23 q37 q57 q104 q102 q58 q99 q98 q101 q100 q96 q97 q103 q95 q94 q220 q19 q29 q80 wyZ q179 q182 q194 q205 q193 q203 q204 q221 q229
  rintro ⟨l, _⟩ hx hp
  try dsimp +instances only [dft_int, dft_sl, dft_str]
  simp only [true_and, and_true, eq_self_iff_true, implies_true, reduceCtorEq, false_implies, true_implies, decide_eq_true_eq, decide_eq_false_iff_not, beq_self_eq_true, Bool.not_eq_true', ne_eq, Decidable.not_not, List.nil_append, List.length_singleton, List.length_cons, List.length_nil, Nat.zero_add, Nat.add_zero, Nat.mul_one, and_self, beq_iff_eq, Bool.not_true, Bool.not_false, Bool.not_eq_false', Bool.cond_false_right, Bool.and_eq_true, imp_self, Bool.not_eq_true, Bool.cond_true_left, Bool.or_eq_true]
  rcases l with _ | ⟨a, _ | ⟨b, r⟩⟩
  . exact ⟨fun _ => rfl, fun h => absurd (by simp) h⟩
  . exact ⟨fun _ => rfl, fun h => absurd (by simp) h⟩
  . simp only [List.getD_cons_zero, List.getD_cons_succ]
    have hlen : (2 : Int) ≤ ((a :: b :: r).length : Int) := by simp; omega
    exact ⟨fun h => by omega, fun _ => ⟨by omega, fun h => ⟨h, by omega, by omega⟩, fun h => ⟨h, by omega, by omega⟩, fun h h2 => ⟨⟨h, h2⟩, by omega, by omega⟩, fun h h2 => ⟨h, h2⟩, fun h h2 => ⟨h, h2⟩, fun h => ⟨h, fun h2 => ⟨h, h2⟩⟩, rfl⟩⟩
theorem h91 : c_num_shortest.ok Try.prog GL 91 := con_ok (H := {}) (mkEnv_ok (gl := GL) (l := []) (q := []) (d := []) _ tyOk (by kernel_rfl) trivial trivial trivial) (by kernel_rfl) (by kernel_rfl) (Eq.mp e91 k91)
def t100 : Prop :=
  ∀ (x : q1), (q27 x) -> True -> (decide (q59 x) = true -> false = ShortD x.1) /\ (decide (q59 x) = false -> (decide ((lnZ x.1) = q37) = true -> true = ShortD x.1) /\ (decide ((lnZ x.1) =
  q37) = false -> (q57 x) /\ (q58 x) /\ q19 ≠ q21 /\ (decide (q106 x) = true -> True) /\ (decide (q106 x) = true -> (q105 x) = true /\ True) /\ (decide (q106 x) = true -> (q105 x) = true) /\
  (bif decide (q106 x) then decide (wrZ (q184 x) ≠ (511 : Int)) else false) = ShortD x.1))
theorem e100 : t100 = Con.vc c_r02_Shortest GL (mkEnv ty [] [] [] [0, 2, 3, 6, 9]) {} Try.f100.ntmps Try.f100.results.toList (bodyOf Try.f100) := by kernel_rfl
theorem k100 : t100 := by
  unfold t100
  delta q1 q27 q59 lnZ q37 q57 q58 q19 q21 q106 q105 wrZ q184 wyZ q179 q193 q224 q235
  rintro ⟨l, _⟩ hx hp
  try dsimp +instances only [dft_int, dft_sl, dft_str]
  simp only [true_and, and_true, eq_self_iff_true, implies_true, reduceCtorEq, false_implies, true_implies, decide_eq_true_eq, decide_eq_false_iff_not, beq_self_eq_true, Bool.not_eq_true', ne_eq, Decidable.not_not, List.nil_append, List.length_singleton, List.length_cons, List.length_nil, Nat.zero_add, Nat.add_zero, Nat.mul_one, and_self, beq_iff_eq, Bool.not_true, Bool.not_false, Bool.not_eq_false', Bool.cond_false_right, Bool.and_eq_true, imp_self, Bool.not_eq_true, Bool.cond_true_left, Bool.or_eq_true]
  rcases l with _ | ⟨a, _ | ⟨b, r⟩⟩
  . exact ⟨fun _ => rfl, fun h => absurd rfl h⟩
  . exact ⟨fun h => by simp at h, fun _ => ⟨fun _ => rfl, fun h => absurd rfl h⟩⟩
  . have ha := get_bnd hx.1 0
    have hb := get_bnd hx.1 1
    have hlen : (2 : Int) ≤ ((a :: b :: r).length : Int) := by simp; omega
    refine ⟨fun h => by omega, fun _ => ⟨fun h => by omega, fun _ => ⟨by omega, by omega, by decide, ?_⟩⟩⟩
    have e : IntKind.wrap .i64 (IntKind.wrap .i64 (IntKind.wrap .i64 ((a :: b :: r).getD 0 0) * 2) + IntKind.wrap .i64 ((IntKind.wrap .i64 ((a :: b :: r).getD 1 0)).tdiv 128)) = 2 * a + b / 128 := by
      simp only [List.getD_cons_zero, List.getD_cons_succ] at ha hb ⊢
      rw [wrapk a (by omega) (by omega), wrapk b (by omega) (by omega), Int.tdiv_eq_ediv_of_nonneg hb.1, wrapk (a * 2) (by omega) (by omega), wrapk (b / 128) (by omega) (by omega), wrapk _ (by omega) (by omega)]
      omega
    simp only [List.getD_cons_zero, List.getD_cons_succ] at ha hb
    rw [e, Bool.eq_iff_iff, Bool.and_eq_true, decide_eq_true_eq, decide_eq_true_eq]
    simp only [ShortD, Bool.not_eq_true', Bool.or_eq_false_iff, Bool.and_eq_false_iff, decide_eq_false_iff_not]
    omega
theorem h100 : c_r02_Shortest.ok Try.prog GL 100 := con_ok (H := {}) (mkEnv_ok (gl := GL) (l := []) (q := []) (d := []) _ tyOk (by kernel_rfl) trivial trivial trivial) (by kernel_rfl) (by kernel_rfl) (Eq.mp e100 k100)
def t55 : Prop :=
  ∀ (x : q1), (q27 x) -> True -> True /\ (∀ (y : q7), (wbZ y.1 /\ True) -> y.1 = ShortD x.1 -> ((!y.1) = true -> (q21, (20 : Int)) = ToIntD x.1) /\ ((!y.1) = false -> (decide (q22 < (lnZ
  x.1)) = true -> (q21, (21 : Int)) = ToIntD x.1) /\ (decide (q22 < (lnZ x.1)) = false -> (q57 x) /\ (q108 x) /\ ∃ (I : q2), ∃ (μ : q3), ((q109 x) = (q109 x) /\ List.drop q29 x.1 = List.drop
  q29 x.1 /\ Value.bool false = Value.bool false /\ Value.bool false = Value.bool false /\ q21 = q21 /\ q21 = q21 /\ x.1 = x.1 /\ I (q21, wrZ (IntKind.wrap IntKind.i8 (q55 x)), ()) ()) /\ ∀
  (y : q4) (z : Unit), (q33 y) -> True -> I y z -> (decide (y.1 < (q109 x)) = true -> (q21 <= y.1 /\ y.1 < (q109 x)) /\ q21 <= q22 /\ (q109 x) = (q109 x) /\ List.drop q29 x.1 = List.drop q29
  x.1 /\ Value.bool false = Value.bool false /\ Value.bool false = Value.bool false /\ q21 = q21 /\ q21 = q21 /\ x.1 = x.1 /\ I (wrZ (q35 y), wrZ (q107 y x), ()) () /\ μ (wrZ (q35 y), wrZ
  (q107 y x), ()) () < μ y z) /\ (decide (y.1 < (q109 x)) = false -> (y.2.1, q21) = ToIntD x.1)))) /\ True
theorem e55 : t55 = Con.vc c_num_ToInt GL (mkEnv ty [(91, conSem c_num_shortest)] [] [] [0, 2, 3, 4, 6, 7, 11, 21, 22, 23, 24]) {} Try.f55.ntmps Try.f55.results.toList (bodyOf Try.f55) := by kernel_rfl
theorem k55 : t55 := by
  unfold t55
  delta q1 q27 q7 wbZ q21 q22 lnZ q57 q108 q2 q3 q109 q29 wrZ q55 q4 q33 q35 q107 wyZ q179 q193 q182 q194 wiZ q221
  rintro ⟨l, _⟩ hx hp
  try dsimp +instances only [dft_int, dft_sl, dft_str]
  simp only [true_and, and_true, eq_self_iff_true, implies_true, reduceCtorEq, false_implies, true_implies, decide_eq_true_eq, decide_eq_false_iff_not, beq_self_eq_true, Bool.not_eq_true', ne_eq, Decidable.not_not, List.nil_append, List.length_singleton, List.length_cons, List.length_nil, Nat.zero_add, Nat.add_zero, Nat.mul_one, and_self, beq_iff_eq, Bool.not_true, Bool.not_false, Bool.not_eq_false', Bool.cond_false_right, Bool.and_eq_true, imp_self, Bool.not_eq_true, Bool.cond_true_left, Bool.or_eq_true]
  rintro ⟨s, _⟩ _ es
  simp only at es ⊢
  refine ⟨fun h => ?_, fun h => ⟨fun h8 => ?_, fun h8 => ?_⟩⟩
  . rw [ToIntD, if_pos (by rw [← es]; exact h)]
  . rw [ToIntD, if_neg (by rw [← es, h]; decide), if_pos (by omega)]
  . have hv : ToIntD l = (nvalD l, 0) := by rw [ToIntD, if_neg (by rw [← es, h]; decide), if_neg (by omega)]
    rw [hv]
    rcases l with _ | ⟨a, r⟩
    . rw [h] at es; cases es
    . have hb := head_bnd hx.1
      have hr : r.length ≤ 7 := by simp at h8; omega
      have hlen : (1 : Int) ≤ ((a :: r).length : Int) := by simp; omega
      simp only [List.getD_cons_zero, List.drop_succ_cons, List.drop_zero]
      rw [val_cons r hb, sx_eq hb]
      refine ⟨⟨by omega, by omega⟩, ⟨by omega, by omega⟩, fun y _ => 0 ≤ y.1 ∧ y.1 ≤ r.length ∧ y.2.1 = foldB (sx a) (r.take y.1.toNat), fun y _ => r.length - y.1.toNat, ⟨by simp, by simp, by simp [foldB]⟩, ?_⟩
      rintro ⟨i, v, _⟩ z hy ⟨h0, h1, h2⟩
      simp only at h0 h1 h2 ⊢
      refine ⟨fun hlt => ⟨⟨h0, hlt⟩, by decide, ?_⟩, fun hge => ?_⟩
      . have hw : IntKind.wrap .i64 (i + 1) = i + 1 := wrapk _ (by omega) (by omega)
        have hor := or_byte v (r.getD i.toNat 0) (get_bnd (tail_wf hx.1) _) (by rw [h2]; exact fold_fit6 hx.1 _ (by omega))
        rw [hw, hor]
        refine ⟨⟨by omega, by omega, ?_⟩, by omega⟩
        rw [show (i + 1).toNat = i.toNat + 1 by omega, ntake_snoc r _ (by omega), fold_snoc, h2]
      . rw [h2, List.take_of_length_le (by omega)]
theorem h55 : c_num_ToInt.ok Try.prog GL 55 := con_ok (H := {}) (mkEnv_ok (gl := GL) (l := [(91, conSem c_num_shortest)]) (q := []) (d := []) _ tyOk (by kernel_rfl) ⟨h91.call, trivial⟩ trivial trivial) (by kernel_rfl) (by kernel_rfl) (Eq.mp e55 k55)
def t65 : Prop :=
  ∀ (x : q1), (q27 x) -> True -> True /\ (∀ (y : q7), (wbZ y.1 /\ True) -> y.1 = ShortD x.1 -> ((!y.1) = true -> (q21, (20 : Int)) = ToIntD x.1) /\ ((!y.1) = false -> (decide (q22 < (lnZ
  x.1)) = true -> (q21, (21 : Int)) = ToIntD x.1) /\ (decide (q22 < (lnZ x.1)) = false -> (q57 x) /\ (decide (q19 <= List.getD x.1 q28 q80) = true -> ∃ (I : q2), ∃ (μ : q3), (Value.bool true
  = Value.bool true /\ Value.bool false = Value.bool false /\ Value.bool false = Value.bool false /\ q21 = q21 /\ q21 = q21 /\ x.1 = x.1 /\ I (q21, q219, ()) ()) /\ ∀ (y : q4) (z : Unit),
  (q33 y) -> True -> I y z -> (decide (y.1 < (lnZ x.1)) = true -> (q21 <= y.1 /\ y.1 < (lnZ x.1)) /\ Value.bool true = Value.bool true /\ Value.bool false = Value.bool false /\ Value.bool
  false = Value.bool false /\ q21 = q21 /\ q21 = q21 /\ x.1 = x.1 /\ I (wrZ (q35 y), wrZ (q110 y x), ()) () /\ μ (wrZ (q35 y), wrZ (q110 y x), ()) () < μ y z) /\ (decide (y.1 < (lnZ x.1)) =
  false -> (y.2.1, q21) = ToIntD x.1)) /\ (decide (q19 <= List.getD x.1 q28 q80) = false -> ∃ (I : q2), ∃ (μ : q3), (Value.bool false = Value.bool false /\ Value.bool false = Value.bool false
  /\ Value.bool false = Value.bool false /\ q21 = q21 /\ q21 = q21 /\ x.1 = x.1 /\ I (q21, q21, ()) ()) /\ ∀ (y : q4) (z : Unit), (q33 y) -> True -> I y z -> (decide (y.1 < (lnZ x.1)) = true
  -> (q21 <= y.1 /\ y.1 < (lnZ x.1)) /\ Value.bool false = Value.bool false /\ Value.bool false = Value.bool false /\ Value.bool false = Value.bool false /\ q21 = q21 /\ q21 = q21 /\ x.1 =
  x.1 /\ I (wrZ (q35 y), wrZ (q110 y x), ()) () /\ μ (wrZ (q35 y), wrZ (q110 y x), ()) () < μ y z) /\ (decide (y.1 < (lnZ x.1)) = false -> (y.2.1, q21) = ToIntD x.1))))) /\ True
theorem e65 : t65 = Con.vc c_r02_ToInt GL (mkEnv ty [(100, conSem c_r02_Shortest)] [] [] [0, 2, 3, 4, 5, 8, 11, 15, 19]) {} Try.f65.ntmps Try.f65.results.toList (bodyOf Try.f65) := by kernel_rfl
theorem k65 : t65 := by
  unfold t65
  delta q1 q27 q7 wbZ q21 q22 lnZ q57 q19 q28 q80 q2 q3 q219 q4 q33 wrZ q35 q110 wyZ q179 q221 wiZ q193 q194
  rintro ⟨l, _⟩ hx hp
  try dsimp +instances only [dft_int, dft_sl, dft_str]
  simp only [true_and, and_true, eq_self_iff_true, implies_true, reduceCtorEq, false_implies, true_implies, decide_eq_true_eq, decide_eq_false_iff_not, beq_self_eq_true, Bool.not_eq_true', ne_eq, Decidable.not_not, List.nil_append, List.length_singleton, List.length_cons, List.length_nil, Nat.zero_add, Nat.add_zero, Nat.mul_one, and_self, beq_iff_eq, Bool.not_true, Bool.not_false, Bool.not_eq_false', Bool.cond_false_right, Bool.and_eq_true, imp_self, Bool.not_eq_true, Bool.cond_true_left, Bool.or_eq_true]
  rintro ⟨s, _⟩ _ es
  simp only at es ⊢
  refine ⟨fun h => ?_, fun h => ⟨fun h8 => ?_, fun h8 => ?_⟩⟩
  . rw [ToIntD, if_pos (by rw [← es]; exact h)]
  . rw [ToIntD, if_neg (by rw [← es, h]; decide), if_pos (by omega)]
  . have hv : ToIntD l = (nvalD l, 0) := by rw [ToIntD, if_neg (by rw [← es, h]; decide), if_neg (by omega)]
    rw [hv]
    rcases l with _ | ⟨a, r⟩
    . rw [h] at es; cases es
    . have hb := head_bnd hx.1
      have hr : r.length ≤ 7 := by simp at h8; omega
      have hlen : (1 : Int) ≤ ((a :: r).length : Int) := by simp; omega
      have hlen2 : (a :: r).length = r.length + 1 := rfl
      have key : ∀ c : Int, c * 256 + a = sx a → ∃ (I : Int × Int × Unit → Unit → Prop) (μ : Int × Int × Unit → Unit → Nat), I (0, c, ()) () ∧ ∀ (y : Int × Int × Unit) (z : Unit),
          (Kd.int IntKind.i64).wf y.fst ∧ (Kd.int IntKind.i64).wf y.snd.fst → I y z →
            (y.fst < ↑(a :: r).length → (0 ≤ y.fst ∧ y.fst < ↑(a :: r).length) ∧
              I (IntKind.i64.wrap (y.fst + 1), IntKind.i64.wrap (IntKind.i64.wrap (y.snd.fst * 256) + IntKind.i64.wrap ((a :: r).getD y.fst.toNat 0)), ()) () ∧
              μ (IntKind.i64.wrap (y.fst + 1), IntKind.i64.wrap (IntKind.i64.wrap (y.snd.fst * 256) + IntKind.i64.wrap ((a :: r).getD y.fst.toNat 0)), ()) () < μ y z) ∧
            (¬y.fst < ↑(a :: r).length → (y.snd.fst, (0 : Int)) = (nvalD (a :: r), 0)) := by
        intro c hc
        have step : ∀ n, n ≤ r.length → foldB c ((a :: r).take (n + 1)) = foldB (sx a) (r.take n) := by
          intro n hn
          rw [List.take_succ_cons]
          show foldB (c * 256 + a) _ = _
          rw [hc]
        refine ⟨fun y _ => 0 ≤ y.1 ∧ y.1 ≤ (a :: r).length ∧ y.2.1 = foldB c ((a :: r).take y.1.toNat), fun y _ => (a :: r).length - y.1.toNat, ⟨by simp, by simp; omega, by simp [foldB]⟩, ?_⟩
        rintro ⟨i, v, _⟩ z hy ⟨h0, h1, h2⟩
        simp only at h0 h1 h2 ⊢
        refine ⟨fun hlt => ⟨⟨h0, hlt⟩, ?_⟩, fun hge => ?_⟩
        . have hw : IntKind.wrap .i64 (i + 1) = i + 1 := wrapk _ (by omega) (by omega)
          have hgb := get_bnd hx.1 i.toNat
          have hnext : foldB c ((a :: r).take (i.toNat + 1)) = v * 256 + (a :: r).getD i.toNat 0 := by
            rw [ntake_snoc _ _ (by omega), fold_snoc, h2]
          have hbnd := fold_fit7 hx.1 i.toNat (by omega)
          rw [← step _ (by omega), hnext] at hbnd
          have hor : IntKind.i64.wrap (IntKind.i64.wrap (v * 256) + IntKind.i64.wrap ((a :: r).getD i.toNat 0)) = v * 256 + (a :: r).getD i.toNat 0 := by
            rw [IntKind.wrap_i64, IntKind.wrap_i64, IntKind.wrap_i64]; omega
          rw [hw, hor]
          refine ⟨⟨by omega, by omega, ?_⟩, by omega⟩
          rw [show (i + 1).toNat = i.toNat + 1 by omega, hnext]
        . rw [h2, List.take_of_length_le (by omega), val_cons r hb, show foldB (sx a) r = foldB (sx a) (r.take r.length) by rw [List.take_length], ← step r.length (Nat.le_refl _), List.take_of_length_le (by simp)]
      refine ⟨⟨by omega, by omega⟩, fun h2 => key (-1) ?_, fun h2 => key 0 ?_⟩
      . have h2 : 128 ≤ a := by simpa using h2
        unfold sx; rw [if_pos h2]; omega
      . have h2 : ¬ 128 ≤ a := by simpa using h2
        unfold sx; rw [if_neg h2]; omega
theorem h65 : c_r02_ToInt.ok Try.prog GL 65 := con_ok (H := {}) (mkEnv_ok (gl := GL) (l := [(100, conSem c_r02_Shortest)]) (q := []) (d := []) _ tyOk (by kernel_rfl) ⟨h100.call, trivial⟩ trivial trivial) (by kernel_rfl) (by kernel_rfl) (Eq.mp e65 k65)
def t86 : Prop :=
  ∀ (x : q1), (q27 x) -> True -> (decide (q116 x) = false -> True) /\ (decide (q116 x) = false -> (decide (q116 x) == false) = true /\ (q57 x) /\ True) /\ (decide (q116 x) = false -> (decide
  (q116 x) == false) = true /\ True) /\ (decide (q116 x) = false -> (decide (q116 x) == false) = true /\ True) /\ (decide (q116 x) = false -> True) /\ ((q114 x) = true -> decide (q115 x) =
  true -> True) /\ ((q114 x) = true -> decide (q115 x) = true -> (q113 x) = true /\ (q57 x) /\ True) /\ (q111 x) /\ (q111 x) /\ (decide (q116 x) = false -> (q114 x) = true /\ (decide (q115 x)
  = true -> (q113 x) = true) /\ True) /\ (decide (q116 x) = false -> (decide (q116 x) == false) = true) /\ ((q112 x) = true -> (false, (20 : Int)) = ToBoolD x.1) /\ ((q112 x) = false -> (q57
  x) /\ (decide (q103 x), q21) = ToBoolD x.1)
theorem e86 : t86 = Con.vc c_num_ToBool GL (mkEnv ty [] [] [] [0, 2, 3, 18]) {} Try.f86.ntmps Try.f86.results.toList (bodyOf Try.f86) := by kernel_rfl
theorem k86 : t86 := by
  unfold t86
  delta q1 q27 q116 q57 q114 q115 q113 q111 q112 q103 q21 wyZ lnZ q193 q179 q182 q194 q206 q221 q229
  rintro ⟨l, _⟩ hx hp
  try dsimp +instances only [dft_int, dft_sl, dft_str]
  simp only [true_and, and_true, eq_self_iff_true, implies_true, reduceCtorEq, false_implies, true_implies, decide_eq_true_eq, decide_eq_false_iff_not, beq_self_eq_true, Bool.not_eq_true', ne_eq, Decidable.not_not, List.nil_append, List.length_singleton, List.length_cons, List.length_nil, Nat.zero_add, Nat.add_zero, Nat.mul_one, and_self, beq_iff_eq, Bool.not_true, Bool.not_false, Bool.not_eq_false', Bool.cond_false_right, Bool.and_eq_true, imp_self, Bool.not_eq_true, Bool.cond_true_left, Bool.or_eq_true]
  rcases l with _ | ⟨a, _ | ⟨b, r⟩⟩
  . simp [ToBoolD]
  . by_cases ha : a = 255
    . subst ha; simp [ToBoolD]
    . by_cases h0 : a = 0
      . subst h0; simp [ToBoolD]
      . simp [ToBoolD, ha, h0]
  . simp [ToBoolD]
    omega
theorem h86 : c_num_ToBool.ok Try.prog GL 86 := con_ok (H := {}) (mkEnv_ok (gl := GL) (l := []) (q := []) (d := []) _ tyOk (by kernel_rfl) trivial trivial trivial) (by kernel_rfl) (by kernel_rfl) (Eq.mp e86 k86)
def t117 : Prop :=
  ∀ (x : q9), (q117 x) -> True -> (decide (x.2.1 < q21) = false -> True) /\ (decide (x.2.1 < q21) = false -> (decide (x.2.1 < q21) == false) = true /\ True) /\ (decide (x.2.1 < q21) = false
  -> (decide (x.2.1 < q21) == false) = true) /\ ((bif decide (x.2.1 < q21) then true else decide ((7 : Int) < x.2.1)) = true -> false = FitsD x.1 x.2.1) /\ ((bif decide (x.2.1 < q21) then
  true else decide ((7 : Int) < x.2.1)) = false -> (decide ((lnZ x.1) = q21) = true -> decide (q185 x) = FitsD x.1 x.2.1) /\ (decide ((lnZ x.1) = q21) = false -> (q21 <= wrZ ((lnZ x.1) - q37)
  /\ wrZ ((lnZ x.1) - q37) < (lnZ x.1)) /\ q21 <= x.2.1 /\ decide (IntKind.wrap IntKind.u8 (↑(BitVec.toNat (BitVec.ofInt (8 : Nat) (List.getD x.1 (Int.toNat (wrZ ((lnZ x.1) - q37))) q80) &&&
  BitVec.ofInt (8 : Nat) (IntKind.wrap IntKind.u8 (IntKind.wrap IntKind.u8 (q37 * q23 ^ min (Int.toNat x.2.1) (8 : Nat)) - q37)))) : Int) = q21) = FitsD x.1 x.2.1))
theorem e117 : t117 = Con.vc c_num_fits GL (mkEnv ty [] [] [] [0, 1, 4, 5, 12]) {} Try.f117.ntmps Try.f117.results.toList (bodyOf Try.f117) := by kernel_rfl
theorem k117 : t117 := by
  unfold t117
  delta q9 q117 q21 lnZ q185 wrZ q37 q80 q23 wyZ wiZ q221
  rintro ⟨l, n, _⟩ hx hp
  have hl : l.length ≤ 9223372036854775807 := hx.1.1
  simp only [true_and, and_true, eq_self_iff_true, implies_true, reduceCtorEq, false_implies, true_implies, decide_eq_true_eq, decide_eq_false_iff_not, beq_self_eq_true, Bool.not_eq_true', ne_eq, Decidable.not_not, List.nil_append, List.length_singleton, List.length_cons, List.length_nil, Nat.zero_add, Nat.add_zero, Nat.mul_one, and_self, beq_iff_eq, Bool.not_true, Bool.not_false, Bool.not_eq_false', Bool.cond_false_right, Bool.and_eq_true, imp_self, Bool.not_eq_true, Bool.cond_true_left, Bool.or_eq_true]
  refine ⟨fun h => by simp [FitsD, h], fun h => ?_⟩
  have h' : ¬ (n < 0 ∨ 7 < n) := by simpa using h
  refine ⟨fun h0 => ?_, fun h0 => ?_⟩
  . have : l = [] := List.eq_nil_of_length_eq_zero (by omega)
    subst this
    rw [FitsD, if_neg h', if_pos rfl]
  . have hne : l ≠ [] := fun e => h0 (by rw [e]; rfl)
    have hw : IntKind.wrap .i64 ((l.length : Int) - 1) = l.length - 1 := by rw [IntKind.wrap_i64]; omega
    have hd : Kd.dft (Kd.int .u8) = (0 : Int) := rfl
    have hb : 0 ≤ l.getD (l.length - 1) 0 ∧ l.getD (l.length - 1) 0 ≤ 255 := byte_get hx.1 (l.length - 1)
    rw [hw, hd, show ((l.length : Int) - 1).toNat = l.length - 1 by omega]
    refine ⟨by omega, by omega, ?_⟩
    rw [and_low _ n.toNat hb.1 hb.2 (by omega), nlast_get l hne]
    rw [FitsD, if_neg h', if_neg hne]
theorem h117 : c_num_fits.ok Try.prog GL 117 := con_ok (H := {}) (mkEnv_ok (gl := GL) (l := []) (q := []) (d := []) _ tyOk (by kernel_rfl) trivial trivial trivial) (by kernel_rfl) (by kernel_rfl) (Eq.mp e117 k117)
def t94 : Prop :=
  ∀ (x : q1), (q27 x) -> lenB x.1 <= q121 -> (decide (q59 x) = false -> True) /\ (decide (q59 x) = false -> (q120 x) = true /\ (q108 x) /\ True) /\ (decide (q59 x) = false -> True) /\ (decide
  (q59 x) = false -> (q120 x) = true /\ (q57 x) /\ True) /\ (decide (q59 x) = false -> (q120 x) = true /\ True) /\ (decide (q59 x) = false -> (q120 x) = true /\ True) /\ (decide (q59 x) =
  false -> (q120 x) = true /\ (q120 x) = true /\ True /\ (∀ (y : q7), (wbZ y.1 /\ True) -> y.1 = FitsD (List.drop (1 : Nat) x.1) (q54 x) -> ((!y.1) = true -> ([], q21, (20 : Int)) = ToBitsD
  x.1) /\ ((!y.1) = false -> (q57 x) /\ ((q108 x) /\ (lenB (List.drop (1 : Nat) x.1) <= q26 /\ (∀ (y : q1), (q27 y) -> y.1 = List.drop q29 x.1 -> ((y.1, wrZ (q55 x), q21) = ToBitsD x.1 /\
  True) /\ True) /\ True) /\ ((q119 x) /\ (q118 x) /\ True) /\ True) /\ (((q108 x) /\ (q119 x) /\ (q118 x) /\ True) /\ (((q108 x) /\ (q186 x) /\ True) /\ True) /\ True) /\ True)) /\ True) /\
  (decide (q59 x) = !false -> ([], q21, (20 : Int)) = ToBitsD x.1)
theorem e94 : t94 = Con.vc c_num_ToBits GL (mkEnv ty [(117, conSem c_num_fits), (40, conSem c_slices_Clone_byte_byte)] [] [] [0, 2, 3, 4, 17]) {} Try.f94.ntmps Try.f94.results.toList (bodyOf Try.f94) := by kernel_rfl
theorem k94 : t94 := by
  unfold t94
  delta q1 q27 q121 q59 q120 q108 q57 q7 wbZ q54 q21 q26 q29 wrZ q55 q119 q118 q186 wyZ lnZ q179 q193 q224 q182 q194 q221
  rintro ⟨l, _⟩ hx hp
  have hp : l.length ≤ 2000000 := hp
  try dsimp +instances only [dft_int, dft_sl, dft_str]
  simp only [true_and, and_true, eq_self_iff_true, implies_true, reduceCtorEq, false_implies, true_implies, decide_eq_true_eq, decide_eq_false_iff_not, beq_self_eq_true, Bool.not_eq_true', ne_eq, Decidable.not_not, List.nil_append, List.length_singleton, List.length_cons, List.length_nil, Nat.zero_add, Nat.add_zero, Nat.mul_one, and_self, beq_iff_eq, Bool.not_true, Bool.not_false, Bool.not_eq_false', Bool.cond_false_right, Bool.and_eq_true, imp_self, Bool.not_eq_true, Bool.cond_true_left, Bool.or_eq_true]
  rcases l with _ | ⟨a, r⟩
  . simp [ToBitsD]
  . have hb := head_bnd hx.1
    have hw : IntKind.wrap .i64 a = a := wrapk a (by omega) (by omega)
    have hne : ¬ ((a :: r).length : Int) = 0 := by simp; omega
    have hr : r.length ≤ 2000000 := by simp at hp; omega
    have b0 : (0 : Int) ≤ 0 ∧ 0 < ((a :: r).length : Int) := by simp
    have b1 : (0 : Int) ≤ 1 ∧ 1 ≤ ((a :: r).length : Int) := by simp; omega
    simp only [List.getD_cons_zero, List.drop_succ_cons, List.drop_zero, hw]
    refine ⟨fun h => ⟨h, b1⟩, fun h => ⟨h, b0⟩, fun h => ⟨h, h, ?_⟩, fun h => absurd h hne⟩
    rintro ⟨s, _⟩ _ es
    simp only at es ⊢
    refine ⟨fun hs => by rw [ToBitsD, if_neg (by rw [← es, hs]; decide)], fun hs => ?_⟩
    have hbb : ToBitsD (a :: r) = (r, a, 0) := by rw [ToBitsD, if_pos (by rw [← es]; exact hs)]
    rw [hbb]
    have hl : lenB r ≤ 1000000000 := by rw [lenB]; omega
    repeat' first | exact b0 | exact b1 | exact hl | exact trivial | refine ⟨?_, ?_⟩ | (intro y _ ey; first | rw [ey] | exact ⟨b0, by rw [ey]⟩)
theorem h94 : c_num_ToBits.ok Try.prog GL 94 := con_ok (H := {}) (mkEnv_ok (gl := GL) (l := [(117, conSem c_num_fits), (40, conSem c_slices_Clone_byte_byte)]) (q := []) (d := []) _ tyOk (by kernel_rfl) ⟨h117.call, h40.call, trivial⟩ trivial trivial) (by kernel_rfl) (by kernel_rfl) (Eq.mp e94 k94)
def t59 : Prop :=
  ∀ (x : q1), (q27 x) -> lenB x.1 <= q121 -> lenB x.1 <= q121 /\ (∀ (y : List Int × Int × Int × Unit), (wyZ y.1 /\ wiZ y.2.1 /\ wiZ y.2.2.1 /\ True) -> (y.1, y.2.1, y.2.2.1) = ToBitsD x.1 ->
  (decide (y.2.2.1 ≠ q21) = true -> (q21, y.2.2.1) = ToFlagsD x.1) /\ (decide (y.2.2.1 ≠ q21) = false -> (decide (q179 < (lnZ y.1)) = true -> True) /\ (decide (q179 < (lnZ y.1)) = true ->
  True) /\ (q124 y) /\ (q124 y) /\ (decide (q179 < (lnZ y.1)) = true -> (q125 y) = true /\ (q125 y) = true /\ (q21 <= wrZ ((lnZ y.1) - q37) /\ wrZ ((lnZ y.1) - q37) < (lnZ y.1)) /\ True) /\
  (q124 y) /\ (decide (q179 < (lnZ y.1)) = true -> True) /\ (decide (q179 < (lnZ y.1)) = true -> (q125 y) = true /\ q21 <= y.2.1 /\ True) /\ (decide (q179 < (lnZ y.1)) = true -> (q125 y) =
  true /\ (q125 y) = true /\ True) /\ (q124 y) /\ (decide (q179 < (lnZ y.1)) = true -> (q125 y) = true) /\ ((q122 y) = true -> (q21, (20 : Int)) = ToFlagsD x.1) /\ ((q122 y) = false ->
  (decide (q23 < (lnZ y.1)) = true -> (q21, (21 : Int)) = ToFlagsD x.1) /\ (decide (q23 < (lnZ y.1)) = false -> ∃ (I : q2), ∃ (μ : q3), ((lnZ y.1) = (lnZ y.1) /\ y.1 = y.1 /\ Value.bool false
  = Value.bool false /\ Value.bool false = Value.bool false /\ Value.bool false = Value.bool false /\ y.2.2.1 = y.2.2.1 /\ y.2.1 = y.2.1 /\ y.1 = y.1 /\ q21 = q21 /\ q21 = q21 /\ x.1 = x.1 /\
  I (q21, q21, ()) ()) /\ ∀ (y_1 : q4) (z : Unit), (wiZ y_1.1 /\ Kd.wf q88 y_1.2.1 /\ True) -> True -> I y_1 z -> (decide (y_1.1 < (lnZ y.1)) = true -> (q21 <= y_1.1 /\ y_1.1 < (lnZ y.1)) /\
  q21 <= wrZ (q22 - wrZ (q22 * y_1.1)) /\ (lnZ y.1) = (lnZ y.1) /\ y.1 = y.1 /\ Value.bool false = Value.bool false /\ Value.bool false = Value.bool false /\ Value.bool false = Value.bool
  false /\ y.2.2.1 = y.2.2.1 /\ y.2.1 = y.2.1 /\ y.1 = y.1 /\ q21 = q21 /\ q21 = q21 /\ x.1 = x.1 /\ I (wrZ (q35 y_1), IntKind.wrap IntKind.u16 (q123 y_1 y), ()) () /\ μ (wrZ (q35 y_1),
  IntKind.wrap IntKind.u16 (q123 y_1 y), ()) () < μ y_1 z) /\ (decide (y_1.1 < (lnZ y.1)) = false -> True /\ (∀ (y : q0), (Kd.wf q88 y.1 /\ True) -> y.1 = (↑(prev (Int.toNat y_1.2.1 / (256 :
  Nat)) (8 : Nat)) : Int) + q20 * (↑(prev (Int.toNat y_1.2.1 % (256 : Nat)) (8 : Nat)) : Int) -> (y.1, q21) = ToFlagsD x.1) /\ True))))) /\ True
theorem e59 : t59 = Con.vc c_num_ToFlags GL (mkEnv ty [(94, conSem c_num_ToBits), (95, conSem c_math_bits_Reverse16)] [] [] [0, 2, 3, 4, 5, 6, 7, 8, 9, 16, 20, 36, 40, 41, 42, 43]) {} Try.f59.ntmps Try.f59.results.toList (bodyOf Try.f59) := by kernel_rfl
theorem k59 : t59 := by
  unfold t59
  delta q1 q27 q121 wyZ wiZ q21 q179 lnZ q124 q125 wrZ q37 q122 q23 q2 q3 q4 q88 q22 q35 q123 q0 q20 q193 q194 q221
  rintro ⟨l, _⟩ hx hp
  have hp : l.length ≤ 2000000 := hp
  try dsimp +instances only [dft_int, dft_sl, dft_str]
  simp only [true_and, and_true, eq_self_iff_true, implies_true, reduceCtorEq, false_implies, true_implies, decide_eq_true_eq, decide_eq_false_iff_not, beq_self_eq_true, Bool.not_eq_true', ne_eq, Decidable.not_not, List.nil_append, List.length_singleton, List.length_cons, List.length_nil, Nat.zero_add, Nat.add_zero, Nat.mul_one, and_self, beq_iff_eq, Bool.not_true, Bool.not_false, Bool.not_eq_false', Bool.cond_false_right, Bool.and_eq_true, imp_self, Bool.not_eq_true, Bool.cond_true_left, Bool.or_eq_true]
  refine ⟨hp, ?_⟩
  rintro ⟨bits, un, code, _⟩ hy ey
  simp only at hy ey ⊢
  have hT : ToFlagsD l = (if code ≠ 0 then (0, code) else if bits ≠ [] ∧ (bits.getLastD 0 / 2 ^ un.toNat) % 2 = 0 then (0, 20) else if 2 < bits.length then (0, 21) else (flagsD bits, 0)) := by rw [ToFlagsD, ← ey]
  refine ⟨fun h => by rw [hT, if_pos h], fun h => ?_⟩
  have hsp : FitsD bits un = true ∧ l = un :: bits := by
    rcases bits_spec ey with h1 | h1
    . exact h1.2
    . omega
  obtain ⟨h0, h7, he, hz⟩ := fits_rng hsp.1
  have hbl : bits.length ≤ 2000000 := by have := congrArg List.length hsp.2; simp at this; omega
  rw [hT, if_neg (fun hc => hc h)]
  have hw : IntKind.wrap .i64 ((bits.length : Int) - 1) = bits.length - 1 := wrapk _ (by omega) (by omega)
  have key : bits ≠ [] → (IntKind.wrap .u8 ↑(BitVec.ofInt 8 (bits.getD (IntKind.wrap .i64 ((bits.length : Int) - 1)).toNat 0) &&& BitVec.ofInt 8 (IntKind.wrap .u8 (1 * 2 ^ min un.toNat 8))).toNat = 0 ↔ (bits.getLastD 0 / 2 ^ un.toNat) % 2 = 0) := by
    intro hne
    rw [hw, show ((bits.length : Int) - 1).toNat = bits.length - 1 by omega, nlast_get bits hne]
    have hb := get_bnd hy.1 (bits.length - 1)
    rw [nlast_get bits hne] at hb
    exact and_bit _ un.toNat hb (by omega)
  have hne : 0 < (bits.length : Int) → bits ≠ [] := fun h e => by rw [e] at h; simp at h
  refine ⟨fun h => ⟨h, h, by rw [hw]; omega, by rw [hw]; omega⟩, fun h => ⟨h, h0⟩, fun h => by rw [if_pos ⟨hne h.1, (key (hne h.1)).1 h.2⟩], fun h => ?_⟩
  have hc : ¬ (bits ≠ [] ∧ (bits.getLastD 0 / 2 ^ un.toNat) % 2 = 0) := fun ⟨h1, h2⟩ => by
    have hl : 0 < bits.length := List.length_pos_iff.2 h1
    rcases Bool.and_eq_false_iff.1 h with h | h
    . exact of_decide_eq_false h (by omega)
    . exact of_decide_eq_false h ((key h1).2 h2)
  rw [if_neg hc]
  refine ⟨fun h2 => by rw [if_pos (by omega)], fun h2 => ?_⟩
  rw [if_neg (by omega)]
  rcases bits with _ | ⟨a, _ | ⟨b, _ | ⟨c, r⟩⟩⟩
  . refine ⟨fun y _ => y.1 = 0 ∧ y.2.1 = 0, fun _ _ => 0, ⟨rfl, rfl⟩, ?_⟩
    rintro ⟨i, v, _⟩ z _ ⟨h1, h3⟩
    simp only at h1 h3 ⊢
    subst h1 h3
    exact ⟨fun h => by simp at h, fun _ y _ ey => by rw [ey]; decide⟩
  . have ha := head_bnd hy.1
    refine ⟨fun y _ => (y.1 = 0 ∧ y.2.1 = 0) ∨ (y.1 = 1 ∧ y.2.1 = a * 256), fun y _ => (1 - y.1).toNat, .inl ⟨rfl, rfl⟩, ?_⟩
    rintro ⟨i, v, _⟩ z _ hI
    simp only at hI ⊢
    refine ⟨fun hlt => ?_, fun hge y _ ey => ?_⟩
    . have hi : i = 0 := by simp at hlt; omega
      have hv : v = 0 := by omega
      subst hi hv
      have e0 : ([a] : List Int).getD (0 : Int).toNat 0 = a := rfl
      rw [e0, hi_eq _ ha]
      exact ⟨by simp, by decide, .inr ⟨by decide, rfl⟩, by decide⟩
    . have hi : i = 1 := by simp at hge; omega
      have hv : v = a * 256 := by omega
      rw [ey, hv, show (a * 256).toNat / 256 = a.toNat by omega, show (a * 256).toNat % 256 = 0 by omega]
      have : prev 0 8 = 0 := by decide
      simp [flagsD, this]
  . have ha := head_bnd hy.1
    have hb := head_bnd (tail_wf hy.1)
    refine ⟨fun y _ => (y.1 = 0 ∧ y.2.1 = 0) ∨ (y.1 = 1 ∧ y.2.1 = a * 256) ∨ (y.1 = 2 ∧ y.2.1 = a * 256 + b), fun y _ => (2 - y.1).toNat, .inl ⟨rfl, rfl⟩, ?_⟩
    rintro ⟨i, v, _⟩ z _ hI
    simp only at hI ⊢
    refine ⟨fun hlt => ?_, fun hge y _ ey => ?_⟩
    . have hlt : i < 2 := by simpa using hlt
      rcases hI with ⟨hi, hv⟩ | ⟨hi, hv⟩ | ⟨hi, hv⟩
      . subst hi hv
        have e0 : ([a, b] : List Int).getD (0 : Int).toNat 0 = a := rfl
        rw [e0, hi_eq _ ha]
        exact ⟨by simp, by decide, .inr (.inl ⟨by decide, rfl⟩), by decide⟩
      . subst hi hv
        have e0 : ([a, b] : List Int).getD (1 : Int).toNat 0 = b := rfl
        rw [e0, lo_eq _ hb, nor16 a b hb ha]
        exact ⟨by simp, by decide, .inr (.inr ⟨by decide, rfl⟩), by decide⟩
      . omega
    . have hge : ¬ i < 2 := by simpa using hge
      have hv : v = a * 256 + b := by omega
      rw [ey, hv, show (a * 256 + b).toNat / 256 = a.toNat by omega, show (a * 256 + b).toNat % 256 = b.toNat by omega]
      simp [flagsD]
  . simp at h2
    omega
theorem h59 : c_num_ToFlags.ok Try.prog GL 59 := con_ok (H := {}) (mkEnv_ok (gl := GL) (l := [(94, conSem c_num_ToBits), (95, conSem c_math_bits_Reverse16)]) (q := []) (d := []) _ tyOk (by kernel_rfl) ⟨h94.call, h95.call, trivial⟩ trivial trivial) (by kernel_rfl) (by kernel_rfl) (Eq.mp e59 k59)
end Go.Proofs.Ytiofbnlbfmbodaa
end
