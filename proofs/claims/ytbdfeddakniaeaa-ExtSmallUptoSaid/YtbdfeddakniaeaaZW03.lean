/- Texts of a verified walk, led together: NumA, NumW. -/
import Derived.Test.YtbdfeddakniaeaaZW02
import Derived.Test.YtbdfeddakniaeaaZV07
import Derived.Test.YtbdfeddakniaeaaZV06
set_option linter.unusedVariables false
set_option linter.unusedSimpArgs false
section
namespace Go.Proofs.Ytbdfeddakniaeaa
open Go Go.Vc Go.Pl Go.Proofs
def c_num_Bool : Con := { args := [.dat .bool], res := [.own 5 U8], pre := fun _ => True, post := fun x y => y.1 = BoolD x.1 }
def c_r02_Bool : Con := { args := [.dat .bool], res := [.own 5 U8], pre := fun _ => True, post := fun x y => y.1 = BoolD x.1 }
def c_r02_low : Con := { args := [.dat I64, .dat I64], res := [.own 5 U8], pre := fun x => 0 ≤ x.2.1 ∧ x.2.1 ≤ 8, post := fun x y => y.1 = low x.1 x.2.1.toNat }
def c_num_Int : Con := { args := [.dat I64], res := [.dat BY], pre := fun _ => True, post := fun x y => y.1 = IntD x.1 }
def c_r02_Int : Con := { args := [.dat I64], res := [.own 5 U8], pre := fun _ => True, post := fun x y => y.1 = IntD x.1 }
def c_math_bits_Reverse16 : Con := { args := [.dat (.int .u16)], res := [.dat (.int .u16)], pre := fun _ => True, post := fun x y => y.1 = (prev (x.1.toNat / 256) 8 : Int) + 256 * (prev (x.1.toNat % 256) 8 : Int) }
def c_math_bits_Len16 : Con := { args := [.dat (.int .u16)], res := [.dat I64], pre := fun _ => True, post := fun x y => y.1 = if x.1 < 256 then (lastb x.1.toNat 8 : Int) else 8 + (lastb (x.1.toNat / 256) 8 : Int) }
def c_num_Flags : Con := { args := [.dat (.int .u16)], res := [.own 5 U8], pre := fun _ => True, post := fun x y => y.1 = FlagsD x.1.toNat }
def c_r02_Flags : Con := { args := [.dat (.int .u16)], res := [.own 5 U8], pre := fun _ => True, post := fun x y => y.1 = FlagsD x.1.toNat }
end Go.Proofs.Ytbdfeddakniaeaa
end
section
namespace Go.Proofs.Ytbdfeddakniaeaa
open Go Go.Vc Go.Pl Go.Proofs
abbrev q27 (p0 : Int × Int × Unit) (p1 : q0) := (Int.fdiv (IntKind.wrap IntKind.u64 p0.1) (q104 ^ min (Int.toNat (wrZ ((8 : Int) * p1.1))) (64 : Nat)))
abbrev q131 (p0 : q1) (p1 : q0) := (List.getD p0.1 (Int.toNat p1.1) (Kd.dft (Kd.int IntKind.u8)) = (255 : Int))
abbrev q117 := (Kd.dft q130)
abbrev q28 (p0 : q1) (p1 : q0) := (bif decide (q131 p0 p1) then decide ((128 : Int) <= List.getD p0.1 (Int.toNat (wrZ (p1.1 + q105))) q117) else false)
abbrev q132 (p0 : q1) (p1 : q0) := (List.getD p0.1 (Int.toNat p1.1) (Kd.dft (Kd.int IntKind.u8)) = (0 : Int))
abbrev q29 (p0 : q1) (p1 : q0) := (bif decide (q132 p0 p1) then decide (List.getD p0.1 (Int.toNat (wrZ (p1.1 + q105))) q117 < (128 : Int)) else false)
abbrev q106 (p0 : q1) (p1 : q0) := (decide (q131 p0 p1) == true)
abbrev q30 (p0 : q1) (p1 : q0) := (decide (q131 p0 p1) = true -> (q106 p0 p1) = true /\ True)
abbrev q107 (p0 : q1) (p1 : q0) := (decide (q132 p0 p1) == true)
abbrev q31 (p0 : q1) (p1 : q0) := (decide (q132 p0 p1) = true -> (q107 p0 p1) = true /\ True)
abbrev q32 (p0 : q0) (p1 : q0) := (IntKind.wrap IntKind.u8 (Int.fdiv p0.1 (q104 ^ min (Int.toNat (wrZ ((56 : Int) - wrZ ((8 : Int) * p1.1)))) (64 : Nat))))
abbrev q33 (p0 : q0) (p1 : q1) := ((0 : Int) <= wrZ (p0.1 + q105) /\ wrZ (p0.1 + q105) < (↑q109 : Int) /\ wrZ (p0.1 + q105) < (lnZ p1.1))
abbrev q34 (p0 : q1) (p1 : q0) := (List.getD p0.1 (q108 p1) q117 = (255 : Int))
abbrev q35 (p0 : q1) (p1 : q0) := (List.getD p0.1 (q108 p1) q117 = (0 : Int))
abbrev q36 (p0 : q0) := (p0.1 + q105)
abbrev q133 (p0 : q0) := ((0 : Int) - wrZ ((1 : Int) * (2 : Int) ^ min (Int.toNat (wrZ (wrZ ((8 : Int) * p0.1) - (1 : Int)))) (64 : Nat)))
abbrev q118 (p0 : q0) (p1 : q0) := (wrZ (q133 p0) <= p1.1)
abbrev q37 (p0 : q0) (p1 : q0) := (bif decide (q118 p0 p1) then decide (p1.1 < wrZ ((1 : Int) * (2 : Int) ^ min (Int.toNat (wrZ (wrZ ((8 : Int) * p0.1) - (1 : Int)))) (64 : Nat))) else
  false)
abbrev q38 (p0 : q0) (p1 : q0) := (decide (q118 p0 p1) = true -> True)
abbrev q39 (p0 : q0) (p1 : q0) := (decide (q118 p0 p1) == true)
abbrev q40 (p0 : q0) (p1 : q0) := (wrZ (q133 p0) <= p1.1)
abbrev q119 := (8 : UInt8)
abbrev q120 := (6 : UInt8)
abbrev q121 := (7 : UInt8)
abbrev q41 := (bs { data := List.toArray (List.append (List.append [(0 : UInt8), (128 : UInt8), (64 : UInt8), (192 : UInt8), (32 : UInt8), (160 : UInt8), (96 : UInt8), (224 : UInt8), (16 :
  UInt8), (144 : UInt8), (80 : UInt8), (208 : UInt8), (48 : UInt8), (176 : UInt8), (112 : UInt8), (240 : UInt8), q119, (136 : UInt8), (72 : UInt8), (200 : UInt8), (40 : UInt8), (168 : UInt8),
  (104 : UInt8), (232 : UInt8), (24 : UInt8), (152 : UInt8), (88 : UInt8), (216 : UInt8), (56 : UInt8), (184 : UInt8), (120 : UInt8), (248 : UInt8), (4 : UInt8), (132 : UInt8), (68 : UInt8),
  (196 : UInt8), (36 : UInt8), (164 : UInt8), (100 : UInt8), (228 : UInt8), (20 : UInt8), (148 : UInt8), (84 : UInt8), (212 : UInt8), (52 : UInt8), (180 : UInt8), (116 : UInt8), (244 :
  UInt8), (12 : UInt8), (140 : UInt8), (76 : UInt8), (204 : UInt8), (44 : UInt8), (172 : UInt8), (108 : UInt8), (236 : UInt8), (28 : UInt8), (156 : UInt8), (92 : UInt8), (220 : UInt8), (60 :
  UInt8), (188 : UInt8), (124 : UInt8), (252 : UInt8)] [(2 : UInt8), (130 : UInt8), (66 : UInt8), (194 : UInt8), (34 : UInt8), (162 : UInt8), (98 : UInt8), (226 : UInt8), (18 : UInt8), (146 :
  UInt8), (82 : UInt8), (210 : UInt8), (50 : UInt8), (178 : UInt8), (114 : UInt8), (242 : UInt8), (10 : UInt8), (138 : UInt8), (74 : UInt8), (202 : UInt8), (42 : UInt8), (170 : UInt8), (106 :
  UInt8), (234 : UInt8), (26 : UInt8), (154 : UInt8), (90 : UInt8), (218 : UInt8), (58 : UInt8), (186 : UInt8), (122 : UInt8), (250 : UInt8), q120, (134 : UInt8), (70 : UInt8), (198 : UInt8),
  (38 : UInt8), (166 : UInt8), (102 : UInt8), (230 : UInt8), (22 : UInt8), (150 : UInt8), (86 : UInt8), (214 : UInt8), (54 : UInt8), (182 : UInt8), (118 : UInt8), (246 : UInt8), (14 : UInt8),
  (142 : UInt8), (78 : UInt8), (206 : UInt8), (46 : UInt8), (174 : UInt8), (110 : UInt8), (238 : UInt8), (30 : UInt8), (158 : UInt8), (94 : UInt8), (222 : UInt8), (62 : UInt8), (190 : UInt8),
  (126 : UInt8), (254 : UInt8)]) (List.append [(1 : UInt8), (129 : UInt8), (65 : UInt8), (193 : UInt8), (33 : UInt8), (161 : UInt8), (97 : UInt8), (225 : UInt8), (17 : UInt8), (145 : UInt8),
  (81 : UInt8), (209 : UInt8), (49 : UInt8), (177 : UInt8), (113 : UInt8), (241 : UInt8), (9 : UInt8), (137 : UInt8), (73 : UInt8), (201 : UInt8), (41 : UInt8), (169 : UInt8), (105 : UInt8),
  (233 : UInt8), (25 : UInt8), (153 : UInt8), (89 : UInt8), (217 : UInt8), (57 : UInt8), (185 : UInt8), (121 : UInt8), (249 : UInt8), (5 : UInt8), (133 : UInt8), (69 : UInt8), (197 : UInt8),
  (37 : UInt8), (165 : UInt8), (101 : UInt8), (229 : UInt8), (21 : UInt8), (149 : UInt8), (85 : UInt8), (213 : UInt8), (53 : UInt8), (181 : UInt8), (117 : UInt8), (245 : UInt8), (13 : UInt8),
  (141 : UInt8), (77 : UInt8), (205 : UInt8), (45 : UInt8), (173 : UInt8), (109 : UInt8), (237 : UInt8), (29 : UInt8), (157 : UInt8), (93 : UInt8), (221 : UInt8), (61 : UInt8), (189 : UInt8),
  (125 : UInt8), (253 : UInt8)] [(3 : UInt8), (131 : UInt8), (67 : UInt8), (195 : UInt8), (35 : UInt8), (163 : UInt8), (99 : UInt8), (227 : UInt8), (19 : UInt8), (147 : UInt8), (83 : UInt8),
  (211 : UInt8), (51 : UInt8), (179 : UInt8), (115 : UInt8), (243 : UInt8), (11 : UInt8), (139 : UInt8), (75 : UInt8), (203 : UInt8), (43 : UInt8), (171 : UInt8), (107 : UInt8), (235 :
  UInt8), (27 : UInt8), (155 : UInt8), (91 : UInt8), (219 : UInt8), (59 : UInt8), (187 : UInt8), (123 : UInt8), (251 : UInt8), q121, (135 : UInt8), (71 : UInt8), (199 : UInt8), (39 : UInt8),
  (167 : UInt8), (103 : UInt8), (231 : UInt8), (23 : UInt8), (151 : UInt8), (87 : UInt8), (215 : UInt8), (55 : UInt8), (183 : UInt8), (119 : UInt8), (247 : UInt8), (15 : UInt8), (143 :
  UInt8), (79 : UInt8), (207 : UInt8), (47 : UInt8), (175 : UInt8), (111 : UInt8), (239 : UInt8), (31 : UInt8), (159 : UInt8), (95 : UInt8), (223 : UInt8), (63 : UInt8), (191 : UInt8), (127 :
  UInt8), (255 : UInt8)])) })
abbrev q42 (p0 : q0) := (↑(BitVec.toNat (BitVec.ofInt (16 : Nat) p0.1 &&& BitVec.ofInt (16 : Nat) (255 : Int))) : Int)
abbrev q43 (p0 : q0) := (Kd.wf (Kd.int IntKind.u16) p0.1 /\ True)
abbrev q44 := (bs { data := List.toArray (List.append (List.append [(0 : UInt8), (1 : UInt8), (2 : UInt8), (2 : UInt8), (3 : UInt8), (3 : UInt8), (3 : UInt8), (3 : UInt8), (4 : UInt8), (4 :
  UInt8), (4 : UInt8), (4 : UInt8), (4 : UInt8), (4 : UInt8), (4 : UInt8), (4 : UInt8), (5 : UInt8), (5 : UInt8), (5 : UInt8), (5 : UInt8), (5 : UInt8), (5 : UInt8), (5 : UInt8), (5 : UInt8),
  (5 : UInt8), (5 : UInt8), (5 : UInt8), (5 : UInt8), (5 : UInt8), (5 : UInt8), (5 : UInt8), (5 : UInt8), q120, q120, q120, q120, q120, q120, q120, q120, q120, q120, q120, q120, q120, q120,
  q120, q120, q120, q120, q120, q120, q120, q120, q120, q120, q120, q120, q120, q120, q120, q120, q120, q120] [q121, q121, q121, q121, q121, q121, q121, q121, q121, q121, q121, q121, q121,
  q121, q121, q121, q121, q121, q121, q121, q121, q121, q121, q121, q121, q121, q121, q121, q121, q121, q121, q121, q121, q121, q121, q121, q121, q121, q121, q121, q121, q121, q121, q121,
  q121, q121, q121, q121, q121, q121, q121, q121, q121, q121, q121, q121, q121, q121, q121, q121, q121, q121, q121, q121]) (List.append [q119, q119, q119, q119, q119, q119, q119, q119, q119,
  q119, q119, q119, q119, q119, q119, q119, q119, q119, q119, q119, q119, q119, q119, q119, q119, q119, q119, q119, q119, q119, q119, q119, q119, q119, q119, q119, q119, q119, q119, q119,
  q119, q119, q119, q119, q119, q119, q119, q119, q119, q119, q119, q119, q119, q119, q119, q119, q119, q119, q119, q119, q119, q119, q119, q119] [q119, q119, q119, q119, q119, q119, q119,
  q119, q119, q119, q119, q119, q119, q119, q119, q119, q119, q119, q119, q119, q119, q119, q119, q119, q119, q119, q119, q119, q119, q119, q119, q119, q119, q119, q119, q119, q119, q119,
  q119, q119, q119, q119, q119, q119, q119, q119, q119, q119, q119, q119, q119, q119, q119, q119, q119, q119, q119, q119, q119, q119, q119, q119, q119, q119])) })
abbrev q45 (p0 : q0) (p1 : q0) := (p0.1 = if p1.1 < (256 : Int) then (↑(lastb (q108 p1) q109) : Int) else (8 : Int) + (↑(lastb (Int.toNat p1.1 / (256 : Nat)) q109) : Int))
abbrev q46 (p0 : q1) (p1 : q0) := (IntKind.wrap IntKind.u8 (↑(BitVec.toNat (BitVec.ofInt q109 (List.getD (p0.1 ++ [(0 : Int)]) (Int.toNat (wrZ (Int.tdiv p1.1 (8 : Int)))) q117) |||
  BitVec.ofInt q109 (Int.fdiv (128 : Int) (q104 ^ min (Int.toNat (Int.tmod p1.1 (8 : Int))) q109)))) : Int))
abbrev q47 (p0 : q1) (p1 : q0) := (IntKind.wrap IntKind.u8 (↑(BitVec.toNat (BitVec.ofInt q109 (List.getD p0.1 (Int.toNat (wrZ (Int.tdiv p1.1 (8 : Int)))) q117) ||| BitVec.ofInt q109
  (Int.fdiv (128 : Int) (q104 ^ min (Int.toNat (Int.tmod p1.1 (8 : Int))) q109)))) : Int))
abbrev q48 (p0 : q0) (p1 : q0) := (Int.tmod (Int.fdiv p0.1 (q104 ^ min (q108 p1) (16 : Nat))) q104 = q105)
abbrev q49 (p0 : q0) := (Int.toNat (wrZ (Int.tdiv p0.1 (8 : Int))))
abbrev q50 (p0 : q0) := (Int.tdiv p0.1 (8 : Int))
abbrev q142 := (-1 : Int)
def t48 : Prop :=
  ∀ (x : q4), (wbZ x.1 /\ True) -> True -> (x.1 = true -> [q8] = BoolD x.1) /\ (x.1 = false -> [q11] = BoolD x.1)
theorem e48 : t48 = Con.vc c_num_Bool GL (mkEnv ty [] [] [] [0, 2, 3]) {} Try.f48.ntmps Try.f48.results.toList (bodyOf Try.f48) := by kernel_rfl
theorem k48 : t48 := by
  unfold t48
  delta q4 wbZ q8 q11
  intro x _ _
  exact ⟨fun h => by rw [h]; rfl, fun h => by rw [h]; rfl⟩
theorem h48 : c_num_Bool.ok Try.prog GL 48 := con_ok (H := {}) (mkEnv_ok (gl := GL) (l := []) (q := []) (d := []) _ tyOk (by kernel_rfl) trivial trivial trivial) (by kernel_rfl) (by kernel_rfl) (Eq.mp e48 k48)
def t51 : Prop :=
  ∀ (x : q4), (wbZ x.1 /\ True) -> True -> (x.1 = true -> [q8] = BoolD x.1) /\ (x.1 = false -> [q11] = BoolD x.1)
theorem e51 : t51 = Con.vc c_r02_Bool GL (mkEnv ty [] [] [] [0, 2, 3]) {} Try.f51.ntmps Try.f51.results.toList (bodyOf Try.f51) := by kernel_rfl
theorem k51 : t51 := by
  unfold t51
  delta q4 wbZ q8 q11
  intro x _ _
  exact ⟨fun h => by rw [h]; rfl, fun h => by rw [h]; rfl⟩
theorem h51 : c_r02_Bool.ok Try.prog GL 51 := con_ok (H := {}) (mkEnv_ok (gl := GL) (l := []) (q := []) (d := []) _ tyOk (by kernel_rfl) trivial trivial trivial) (by kernel_rfl) (by kernel_rfl) (Eq.mp e51 k51)
def t103 : Prop :=
  ∀ (x : Int × Int × Unit), (wiZ x.1 /\ wiZ x.2.1 /\ True) -> q11 <= x.2.1 /\ x.2.1 <= q12 -> ∃ (I : q2), ∃ (μ : q3), (Value.slice none q17 q17 = Value.slice none q17 q17 /\ x.1 = x.1 /\
  x.2.1 = x.2.1 /\ I (wrZ (x.2.1 - q105), ()) ([], ())) /\ ∀ (y : q0) (z : q1), (wiZ y.1 /\ True) -> (q16 z) -> I y z -> (decide (q103 y) = true -> q11 <= wrZ ((8 : Int) * y.1) /\ q17 < q18
  /\ (List.length z.1 + List.length [IntKind.wrap IntKind.u8 (q27 x y)]) * q18 <= q14 /\ List.length z.1 + List.length [IntKind.wrap IntKind.u8 (q27 x y)] <= q13 /\ Value.slice none q17 q17 =
  Value.slice none q17 q17 /\ x.1 = x.1 /\ x.2.1 = x.2.1 /\ I (wrZ (y.1 - q105), ()) (z.1 ++ [IntKind.wrap IntKind.u8 (q27 x y)], ()) /\ μ (wrZ (y.1 - q105), ()) (z.1 ++ [IntKind.wrap
  IntKind.u8 (q27 x y)], ()) < μ y z) /\ (decide (q103 y) = false -> z.1 = low x.1 (Int.toNat x.2.1))
theorem e103 : t103 = Con.vc c_r02_low GL (mkEnv ty [] [] [] [0, 1, 4, 5, 6, 10]) {} Try.f103.ntmps Try.f103.results.toList (bodyOf Try.f103) := by kernel_rfl
theorem k103 : t103 := by
  unfold t103
  delta wiZ q11 q12 q2 q3 q17 wrZ q105 q0 q1 q16 q103 q18 q27 q14 q13 wyZ q104
  rintro ⟨x, n, u⟩ hx hp
  simp only at hx hp ⊢
  have w0 : IntKind.wrap .i64 (n - 1) = n - 1 := by rw [IntKind.wrap_i64]; omega
  refine ⟨fun y z => -1 ≤ y.1 ∧ y.1 ≤ n - 1 ∧ z.1 ++ low x (y.1 + 1).toNat = low x n.toNat, fun y _ => (y.1 + 1).toNat, ⟨by trivial, by trivial, by trivial, ?_⟩, ?_⟩
  . rw [w0]
    exact ⟨by omega, by omega, by simp⟩
  . rintro ⟨i, u⟩ ⟨z, u'⟩ hw hw2 ⟨h1, h2, h3⟩
    simp only at h1 h2 h3 hw hw2 ⊢
    refine ⟨fun hc => ?_, fun hc => ?_⟩
    . have hc := of_decide_eq_true hc
      obtain ⟨m, rfl⟩ : ∃ m : Nat, i = m := ⟨i.toNat, by omega⟩
      have hl := congrArg List.length h3
      rw [List.length_append, nlow_len, nlow_len] at hl
      rw [byte_u64 x m (by omega)]
      have hwr : IntKind.wrap .i64 ((m : Int) - 1) = m - 1 := by rw [IntKind.wrap_i64]; omega
      refine ⟨by rw [IntKind.wrap_i64]; omega, by decide, by simp only [List.length_singleton]; omega, by simp only [List.length_singleton]; omega, by trivial, by trivial, by trivial, ?_, ?_⟩
      . rw [hwr]
        refine ⟨by omega, by omega, ?_⟩
        rw [← h3, show ((m : Int) + 1).toNat = m + 1 by omega, show ((m : Int) - 1 + 1).toNat = m by omega]
        simp [low]
      . rw [hwr]; omega
    . have hc := of_decide_eq_false hc
      have : i = -1 := by omega
      subst this
      simpa [low] using h3
theorem h103 : c_r02_low.ok Try.prog GL 103 := con_ok (H := {}) (mkEnv_ok (gl := GL) (l := []) (q := []) (d := []) _ tyOk (by kernel_rfl) trivial trivial trivial) (by kernel_rfl) (by kernel_rfl) (Eq.mp e103 k103)
def t49 : Prop :=
  ∀ (x : q0), (wiZ x.1 /\ True) -> True -> q109 <= (65536 : Nat) /\ ∃ (I : q2), ∃ (μ : q3), (Value.slice none q17 q17 = Value.slice none q17 q17 /\ x.1 = x.1 /\ I (q11, ()) ([q11, q11, q11,
  q11, q11, q11, q11, q11], ())) /\ ∀ (y : q0) (z : q1), (wiZ y.1 /\ True) -> (q16 z) -> I y z -> (decide (y.1 < q12) = true -> q11 <= wrZ ((56 : Int) - wrZ ((8 : Int) * y.1)) /\ (q11 <= y.1
  /\ y.1 < (↑q109 : Int) /\ y.1 < (lnZ z.1)) /\ Value.slice none q17 q17 = Value.slice none q17 q17 /\ x.1 = x.1 /\ I (wrZ (q36 y), ()) (List.set z.1 (q108 y) (q32 x y), ()) /\ μ (wrZ (q36
  y), ()) (List.set z.1 (q108 y) (q32 x y), ()) < μ y z) /\ (decide (y.1 < q12) = false -> ∃ (I : Int × Unit -> Unit -> Prop), ∃ (μ : Int × Unit -> Unit -> Nat), (Value.bool false =
  Value.bool false /\ y.1 = y.1 /\ Value.slice none q17 q17 = Value.slice none q17 q17 /\ x.1 = x.1 /\ z.1 = z.1 /\ I (q11, ()) ()) /\ ∀ (y_1 : q0) (z_1 : Unit), (wiZ y_1.1 /\ True) -> True
  -> I y_1 z_1 -> (decide (y_1.1 < (7 : Int)) = true -> (q11 <= y_1.1 /\ y_1.1 < (↑q109 : Int) /\ y_1.1 < (lnZ z.1)) /\ (decide (q35 z y_1) = true -> True) /\ (q31 z y_1) /\ (decide (q35 z
  y_1) = true -> (q107 z y_1) = true /\ (q33 y_1 z) /\ True) /\ (q31 z y_1) /\ (q31 z y_1) /\ (decide (q35 z y_1) = true -> (q107 z y_1) = true) /\ ((q29 z y_1) = true -> Value.bool false =
  Value.bool false /\ y.1 = y.1 /\ Value.slice none q17 q17 = Value.slice none q17 q17 /\ x.1 = x.1 /\ z.1 = z.1 /\ I (wrZ (q36 y_1), ()) () /\ μ (wrZ (q36 y_1), ()) () < μ y_1 z_1) /\ ((q29
  z y_1) = false -> (q11 <= y_1.1 /\ y_1.1 < (↑q109 : Int) /\ y_1.1 < (lnZ z.1)) /\ (decide (q34 z y_1) = true -> True) /\ (q30 z y_1) /\ (decide (q34 z y_1) = true -> (q106 z y_1) = true /\
  (q33 y_1 z) /\ True) /\ (q30 z y_1) /\ (q30 z y_1) /\ (decide (q34 z y_1) = true -> (q106 z y_1) = true) /\ ((q28 z y_1) = true -> Value.bool false = Value.bool false /\ y.1 = y.1 /\
  Value.slice none q17 q17 = Value.slice none q17 q17 /\ x.1 = x.1 /\ z.1 = z.1 /\ I (wrZ (q36 y_1), ()) () /\ μ (wrZ (q36 y_1), ()) () < μ y_1 z_1) /\ ((q28 z y_1) = false -> (q11 <= y_1.1
  /\ y_1.1 <= (↑q109 : Int)) /\ List.length z.1 = q109 /\ lenB (List.take (q109 - Int.toNat y_1.1) (List.drop (q108 y_1) z.1)) <= q15 /\ (∀ (y : q1), (q16 y) -> y.1 = List.take (q109 -
  Int.toNat y_1.1) (List.drop (q108 y_1) z.1) -> y.1 = IntD x.1) /\ True))) /\ (decide (y_1.1 < (7 : Int)) = false -> (q11 <= y_1.1 /\ y_1.1 <= (↑q109 : Int)) /\ List.length z.1 = q109 /\
  lenB (List.take (q109 - Int.toNat y_1.1) (List.drop (q108 y_1) z.1)) <= q15 /\ (∀ (y : q1), (q16 y) -> y.1 = List.take (q109 - Int.toNat y_1.1) (List.drop (q108 y_1) z.1) -> y.1 = IntD x.1)
  /\ True))
theorem e49 : t49 = Con.vc c_num_Int GL (mkEnv ty [(91, conSem c_slices_Clone_byte_byte)] [] [] [0, 2, 3, 4, 5, 6, 7, 19, 20]) {} Try.f49.ntmps Try.f49.results.toList (bodyOf Try.f49) := by kernel_rfl
theorem k49 : t49 := by
  unfold t49
  delta q0 wiZ q109 q2 q3 q17 q11 q1 q16 q12 wrZ lnZ q36 q108 q32 q35 q31 q107 q33 q29 q34 q30 q106 q28 q15 wyZ q105 q104 q117 q132 q131 q130
  rintro ⟨x, u⟩ hx hp
  simp only at hx hp ⊢
  have hx3 : fit x 8 := fit8 hx.1
  refine ⟨by decide, fun y z => 0 ≤ y.1 ∧ y.1 ≤ 8 ∧ z.1.length = 8 ∧ ∀ i : Nat, (i : Int) < y.1 → z.1[i]? = (low x 8)[i]?, fun y _ => (8 - y.1).toNat, ⟨by trivial, by trivial, by omega, by omega, rfl, fun i h => by omega⟩, ?_⟩
  rintro ⟨i, u⟩ ⟨z, u'⟩ hw hw2 ⟨h1, h2, h3, h4⟩
  simp only at h1 h2 h3 h4 hw hw2 ⊢
  refine ⟨fun hc => ?_, fun hc => ?_⟩
  . have hc := of_decide_eq_true hc
    obtain ⟨n, rfl⟩ : ∃ n : Nat, i = n := ⟨i.toNat, by omega⟩
    have hwr : IntKind.wrap .i64 ((n : Int) + 1) = n + 1 := by rw [IntKind.wrap_i64]; omega
    rw [byte_i64 x n (by omega), hwr]
    refine ⟨by rw [IntKind.wrap_i64, IntKind.wrap_i64]; omega, by omega, by trivial, by trivial, ⟨by omega, by omega, by rw [List.length_set]; exact h3, fun j hj => ?_⟩, by omega⟩
    rw [Int.toNat_natCast, List.getElem?_set]
    split
    . rename_i e
      subst e
      rw [if_pos (by omega), low_at x n (by omega)]
    . exact h4 j (by omega)
  . have hc := of_decide_eq_false hc
    have hi : i = 8 := by omega
    have hz : z = low x 8 := List.ext_getElem? fun j => by
      by_cases hj : j < 8
      . exact h4 j (by omega)
      . rw [List.getElem?_eq_none (by omega), List.getElem?_eq_none (by rw [nlow_len]; omega)]
    subst hz
    refine ⟨fun y _ => 0 ≤ y.1 ∧ y.1 ≤ 7 ∧ fit x (8 - y.1.toNat), fun y _ => (8 - y.1).toNat, ⟨by trivial, by trivial, by trivial, by trivial, by trivial, by omega, by omega, hx3⟩, ?_⟩
    rintro ⟨j, u⟩ u' hw _ ⟨h5, h6, h7⟩
    simp only at h5 h6 h7 hw ⊢
    obtain ⟨n, rfl⟩ : ∃ n : Nat, j = n := ⟨j.toNat, by omega⟩
    rw [Int.toNat_natCast] at h7 ⊢
    have hwr : IntKind.wrap .i64 ((n : Int) + 1) = n + 1 := by rw [IntKind.wrap_i64]; omega
    have hlen : ((low x 8).drop n |>.take (8 - n)).length ≤ 1000000000 := by rw [List.length_take]; omega
    have hfin : n = 7 ∨ ¬ fit x (7 - n) → ∀ y : List Int × Unit, Kd.wf (Kd.sl (Kd.int .u8)) y.1 ∧ True → y.1 = ((low x 8).drop n).take (8 - n) → y.1 = IntD x :=
      fun h y _ e => by rw [e]; exact rest x n (by omega) h7 h
    refine ⟨fun hc => ?_, fun hc => ?_⟩
    . have hc := of_decide_eq_true hc
      have hst := fit_step x n (by omega) h7
      rw [hwr, show ((n : Int) + 1).toNat = n + 1 by omega]
      have hd : Kd.dft (Kd.int .u8) = (0 : Int) := rfl
      rw [hd]
      generalize ea : (low x 8).getD n 0 = a at hst ⊢
      generalize eb : (low x 8).getD (n + 1) 0 = b at hst ⊢
      have hnext : fit x (7 - n) → (0 ≤ (n : Int) + 1 ∧ (n : Int) + 1 ≤ 7 ∧ fit x (8 - ((n : Int) + 1).toNat)) := fun h => ⟨by omega, by omega, by rw [show 8 - ((n : Int) + 1).toNat = 7 - n by omega]; exact h⟩
      have hlow : ((low x 8).length : Int) = 8 := by rw [nlow_len]; rfl
      have hrange : (0 : Int) ≤ (n : Int) + 1 ∧ (n : Int) + 1 < ((8 : Nat) : Int) ∧ (n : Int) + 1 < ((low x 8).length : Int) := by rw [hlow]; omega
      refine ⟨by rw [hlow]; omega, fun _ => trivial, fun h => ⟨by simp [h], trivial⟩, fun h => ⟨by simp [h], hrange, trivial⟩, fun h => ⟨by simp [h], trivial⟩, fun h => ⟨by simp [h], trivial⟩, fun h => by simp [h], ?_, ?_⟩
      . refine fun hb => ⟨by trivial, by trivial, by trivial, by trivial, by trivial, ?_, by omega⟩
        have hb' : a = 0 ∧ b < 128 := by simpa using hb
        exact hnext (hst.1 (.inl hb'))
      . refine fun hb => ⟨by rw [hlow]; omega, fun _ => trivial, fun h => ⟨by simp [h], trivial⟩, fun h => ⟨by simp [h], hrange, trivial⟩, fun h => ⟨by simp [h], trivial⟩, fun h => ⟨by simp [h], trivial⟩, fun h => by simp [h], ?_, ?_⟩
        . refine fun hb3 => ⟨by trivial, by trivial, by trivial, by trivial, by trivial, ?_, by omega⟩
          have hb' : a = 255 ∧ 128 ≤ b := by simpa using hb3
          exact hnext (hst.1 (.inr hb'))
        . refine fun hb3 => ⟨by omega, nlow_len x 8, hlen, hfin (.inr fun hf => ?_), trivial⟩
          rcases hst.2 hf with h | h
          . simp [h.1, h.2] at hb
          . simp [h.1, h.2] at hb3
    . have hc := of_decide_eq_false hc
      exact ⟨by omega, nlow_len x 8, hlen, hfin (.inl (by omega)), trivial⟩
theorem h49 : c_num_Int.ok Try.prog GL 49 := con_ok (H := {}) (mkEnv_ok (gl := GL) (l := [(91, conSem c_slices_Clone_byte_byte)]) (q := []) (d := []) _ tyOk (by kernel_rfl) ⟨h91.call, trivial⟩ trivial trivial) (by kernel_rfl) (by kernel_rfl) (Eq.mp e49 k49)
def t52 : Prop :=
  ∀ (x : q0), (wiZ x.1 /\ True) -> True -> ∃ (I : q2), ∃ (μ : q3), (x.1 = x.1 /\ I (q105, ()) ([], ())) /\ ∀ (y : q0) (z : q1), (wiZ y.1 /\ True) -> (q16 z) -> I y z -> (decide (y.1 < q12) =
  true -> q11 <= wrZ (wrZ ((8 : Int) * y.1) - (1 : Int)) /\ (q38 y x) /\ (q38 y x) /\ (decide (q40 y x) = true -> (q39 y x) = true /\ (q39 y x) = true /\ True) /\ (decide (q40 y x) = true ->
  (q39 y x) = true) /\ ((q37 y x) = true -> (q11 <= y.1 /\ y.1 <= q12) /\ (∀ (y_1 : q1), (q16 y_1) -> y_1.1 = low x.1 (q108 y) -> y_1.1 = IntD x.1) /\ True) /\ ((q37 y x) = false -> x.1 = x.1
  /\ I (wrZ (q36 y), ()) (z.1, ()) /\ μ (wrZ (q36 y), ()) (z.1, ()) < μ y z)) /\ (decide (y.1 < q12) = false -> (q11 <= q12 /\ q12 <= q12) /\ (∀ (y : q1), (q16 y) -> y.1 = low x.1 (Int.toNat
  q12) -> y.1 = IntD x.1) /\ True)
theorem e52 : t52 = Con.vc c_r02_Int GL (mkEnv ty [(103, conSem c_r02_low)] [] [] [0, 2, 3, 4, 6, 21]) {} Try.f52.ntmps Try.f52.results.toList (bodyOf Try.f52) := by kernel_rfl
theorem k52 : t52 := by
  unfold t52
  delta q0 wiZ q2 q3 q105 q1 q16 q12 q11 wrZ q38 q40 q39 q37 q108 q36 wyZ q118 q133
  rintro ⟨x, u⟩ hx hp
  simp only at hx hp ⊢
  have hx2 : InR .i64 x := hx.1
  have hx3 : fit x 8 := fit8 hx2
  refine ⟨fun y z => 1 ≤ y.1 ∧ y.1 ≤ 8 ∧ ∀ m : Nat, (m : Int) < y.1 → 1 ≤ m → ¬ fit x m, fun y _ => (8 - y.1).toNat, ⟨by trivial, by omega, by omega, fun m h1 h2 => by omega⟩, ?_⟩
  rintro ⟨i, u⟩ ⟨z, u'⟩ hw hw2 ⟨h1, h2, h3⟩
  simp only at h1 h2 h3 hw hw2 ⊢
  refine ⟨fun hc => ?_, fun hc => ?_⟩
  . have hc := of_decide_eq_true hc
    obtain ⟨n, rfl⟩ : ∃ n : Nat, i = n := ⟨i.toNat, by omega⟩
    have hwr : IntKind.wrap .i64 ((n : Int) + 1) = n + 1 := by rw [IntKind.wrap_i64]; omega
    have e1 : IntKind.wrap .i64 (1 * 2 ^ min (IntKind.wrap .i64 (IntKind.wrap .i64 (8 * (n : Int)) - 1)).toNat 64) = 2 ^ (8 * n - 1) ∧ IntKind.wrap .i64 (0 - 2 ^ (8 * n - 1)) = -2 ^ (8 * n - 1) := by
      match n, h1, hc with
      | 1, _, _ | 2, _, _ | 3, _, _ | 4, _, _ | 5, _, _ | 6, _, _ | 7, _, _ => decide
      | 0, h, _ => exact absurd h (by decide)
      | n + 8, _, h => omega
    rw [e1.1, e1.2]
    refine ⟨by rw [IntKind.wrap_i64, IntKind.wrap_i64]; omega, by simp, by simp, by simp, by simp, fun hb => ?_, fun hb => ?_⟩
    . refine ⟨by omega, fun y _ e => ?_, trivial⟩
      rw [e, IntD, wide_eq x n (by omega) (by omega) (by simpa [fit] using hb) ?_]
      . rfl
      . by_cases e : n = 1
        . exact .inl e
        . exact .inr (h3 (n - 1) (by omega) (by omega))
    . refine ⟨by trivial, ?_, by rw [hwr]; omega⟩
      rw [hwr]
      refine ⟨by omega, by omega, fun m hm h1m => ?_⟩
      by_cases e : m = n
      . subst e
        simpa [fit] using hb
      . exact h3 m (by omega) h1m
  . have hc := of_decide_eq_false hc
    have : i = 8 := by omega
    subst this
    refine ⟨by decide, fun y _ e => ?_, trivial⟩
    rw [e, IntD, wide_eq x 8 (by omega) (by omega) hx3 (.inr (h3 7 (by omega) (by omega)))]
    rfl
theorem h52 : c_r02_Int.ok Try.prog GL 52 := con_ok (H := {}) (mkEnv_ok (gl := GL) (l := [(103, conSem c_r02_low)]) (q := []) (d := []) _ tyOk (by kernel_rfl) ⟨h103.call, trivial⟩ trivial trivial) (by kernel_rfl) (by kernel_rfl) (Eq.mp e52 k52)
def t104 : Prop :=
  ∀ (x : q0), (q43 x) -> True -> q11 <= q12 /\ (q11 <= Int.fdiv x.1 (q104 ^ q109) /\ Int.fdiv x.1 (q104 ^ q109) < (↑(256 : Nat) : Int)) /\ (q11 <= IntKind.wrap IntKind.u16 (q42 x) /\
  IntKind.wrap IntKind.u16 (q42 x) < (↑(256 : Nat) : Int)) /\ q11 <= q12 /\ IntKind.wrap IntKind.u16 (↑(BitVec.toNat (BitVec.ofInt (16 : Nat) (IntKind.wrap IntKind.u16 (List.getD q41
  (Int.toNat (q9 x)) q11)) ||| BitVec.ofInt (16 : Nat) (IntKind.wrap IntKind.u16 (IntKind.wrap IntKind.u16 (List.getD q41 (Int.toNat (IntKind.wrap IntKind.u16 (q42 x))) q11) * q104 ^ q109))))
  : Int) = (↑(prev (Int.toNat x.1 / (256 : Nat)) q109) : Int) + q10 * (↑(prev (Int.toNat x.1 % (256 : Nat)) q109) : Int)
theorem e104 : t104 = Con.vc c_math_bits_Reverse16 GL (mkEnv ty [] [] [] [0, 2]) {} Try.f104.ntmps Try.f104.results.toList (bodyOf Try.f104) := by kernel_rfl
theorem k104 : t104 := by
  unfold t104
  delta q0 q43 q11 q12 q104 q109 q42 q41 q9 q10 q119 q120 q121
  rintro ⟨x, _⟩ hx hp
  obtain ⟨n, rfl, hn⟩ := u16_nat hx.1
  simp only [true_and, and_true, eq_self_iff_true, implies_true, reduceCtorEq, false_implies, true_implies, decide_eq_true_eq, decide_eq_false_iff_not, beq_self_eq_true, Bool.not_eq_true', ne_eq, Decidable.not_not, List.nil_append, List.length_singleton, List.length_cons, List.length_nil, Nat.zero_add, Nat.add_zero, Nat.mul_one, and_self, beq_iff_eq, Bool.not_true, Bool.not_false, Bool.not_eq_false', Bool.cond_false_right, Bool.and_eq_true, imp_self, Bool.not_eq_true, Bool.cond_true_left, Bool.or_eq_true, fdiv8, Go.Pl.u16_and n hn, Int.toNat_natCast]
  have tab : ∀ i : Fin 256, List.getD (bs { data := List.toArray (List.append (List.append [(0 : UInt8), (128 : UInt8), (64 : UInt8), (192 : UInt8), (32 : UInt8), (160 : UInt8), (96 : UInt8), (224 : UInt8), (16 : UInt8), (144 : UInt8), (80 : UInt8), (208 : UInt8), (48 : UInt8), (176 : UInt8), (112 : UInt8), (240 : UInt8), (8 : UInt8), (136 : UInt8), (72 : UInt8), (200 : UInt8), (40 : UInt8), (168 : UInt8), (104 : UInt8), (232 : UInt8), (24 : UInt8), (152 : UInt8), (88 : UInt8), (216 : UInt8), (56 : UInt8), (184 : UInt8), (120 : UInt8), (248 : UInt8), (4 : UInt8), (132 : UInt8), (68 : UInt8), (196 : UInt8), (36 : UInt8), (164 : UInt8), (100 : UInt8), (228 : UInt8), (20 : UInt8), (148 : UInt8), (84 : UInt8), (212 : UInt8), (52 : UInt8), (180 : UInt8), (116 : UInt8), (244 : UInt8), (12 : UInt8), (140 : UInt8), (76 : UInt8), (204 : UInt8), (44 : UInt8), (172 : UInt8), (108 : UInt8), (236 : UInt8), (28 : UInt8), (156 : UInt8), (92 : UInt8), (220 : UInt8), (60 : UInt8), (188 : UInt8), (124 : UInt8), (252 : UInt8)] [(2 : UInt8), (130 : UInt8), (66 : UInt8), (194 : UInt8), (34 : UInt8), (162 : UInt8), (98 : UInt8), (226 : UInt8), (18 : UInt8), (146 : UInt8), (82 : UInt8), (210 : UInt8), (50 : UInt8), (178 : UInt8), (114 : UInt8), (242 : UInt8), (10 : UInt8), (138 : UInt8), (74 : UInt8), (202 : UInt8), (42 : UInt8), (170 : UInt8), (106 : UInt8), (234 : UInt8), (26 : UInt8), (154 : UInt8), (90 : UInt8), (218 : UInt8), (58 : UInt8), (186 : UInt8), (122 : UInt8), (250 : UInt8), (6 : UInt8), (134 : UInt8), (70 : UInt8), (198 : UInt8), (38 : UInt8), (166 : UInt8), (102 : UInt8), (230 : UInt8), (22 : UInt8), (150 : UInt8), (86 : UInt8), (214 : UInt8), (54 : UInt8), (182 : UInt8), (118 : UInt8), (246 : UInt8), (14 : UInt8), (142 : UInt8), (78 : UInt8), (206 : UInt8), (46 : UInt8), (174 : UInt8), (110 : UInt8), (238 : UInt8), (30 : UInt8), (158 : UInt8), (94 : UInt8), (222 : UInt8), (62 : UInt8), (190 : UInt8), (126 : UInt8), (254 : UInt8)]) (List.append [(1 : UInt8), (129 : UInt8), (65 : UInt8), (193 : UInt8), (33 : UInt8), (161 : UInt8), (97 : UInt8), (225 : UInt8), (17 : UInt8), (145 : UInt8), (81 : UInt8), (209 : UInt8), (49 : UInt8), (177 : UInt8), (113 : UInt8), (241 : UInt8), (9 : UInt8), (137 : UInt8), (73 : UInt8), (201 : UInt8), (41 : UInt8), (169 : UInt8), (105 : UInt8), (233 : UInt8), (25 : UInt8), (153 : UInt8), (89 : UInt8), (217 : UInt8), (57 : UInt8), (185 : UInt8), (121 : UInt8), (249 : UInt8), (5 : UInt8), (133 : UInt8), (69 : UInt8), (197 : UInt8), (37 : UInt8), (165 : UInt8), (101 : UInt8), (229 : UInt8), (21 : UInt8), (149 : UInt8), (85 : UInt8), (213 : UInt8), (53 : UInt8), (181 : UInt8), (117 : UInt8), (245 : UInt8), (13 : UInt8), (141 : UInt8), (77 : UInt8), (205 : UInt8), (45 : UInt8), (173 : UInt8), (109 : UInt8), (237 : UInt8), (29 : UInt8), (157 : UInt8), (93 : UInt8), (221 : UInt8), (61 : UInt8), (189 : UInt8), (125 : UInt8), (253 : UInt8)] [(3 : UInt8), (131 : UInt8), (67 : UInt8), (195 : UInt8), (35 : UInt8), (163 : UInt8), (99 : UInt8), (227 : UInt8), (19 : UInt8), (147 : UInt8), (83 : UInt8), (211 : UInt8), (51 : UInt8), (179 : UInt8), (115 : UInt8), (243 : UInt8), (11 : UInt8), (139 : UInt8), (75 : UInt8), (203 : UInt8), (43 : UInt8), (171 : UInt8), (107 : UInt8), (235 : UInt8), (27 : UInt8), (155 : UInt8), (91 : UInt8), (219 : UInt8), (59 : UInt8), (187 : UInt8), (123 : UInt8), (251 : UInt8), (7 : UInt8), (135 : UInt8), (71 : UInt8), (199 : UInt8), (39 : UInt8), (167 : UInt8), (103 : UInt8), (231 : UInt8), (23 : UInt8), (151 : UInt8), (87 : UInt8), (215 : UInt8), (55 : UInt8), (183 : UInt8), (119 : UInt8), (247 : UInt8), (15 : UInt8), (143 : UInt8), (79 : UInt8), (207 : UInt8), (47 : UInt8), (175 : UInt8), (111 : UInt8), (239 : UInt8), (31 : UInt8), (159 : UInt8), (95 : UInt8), (223 : UInt8), (63 : UInt8), (191 : UInt8), (127 : UInt8), (255 : UInt8)])) }) i.val (0 : Int) = (prev i.val 8 : Int) := by decide +kernel
  rw [tab ⟨n / 256, by omega⟩, tab ⟨n % 256, by omega⟩]
  exact ⟨by decide, by omega, by omega, by decide, Go.Pl.u16_or _ _ (prev_lt _ (by omega)) (prev_lt _ (by omega))⟩
theorem h104 : c_math_bits_Reverse16.ok Try.prog GL 104 := con_ok (H := {}) (mkEnv_ok (gl := GL) (l := []) (q := []) (d := []) _ tyOk (by kernel_rfl) trivial trivial trivial) (by kernel_rfl) (by kernel_rfl) (Eq.mp e104 k104)
def t105 : Prop :=
  ∀ (x : q0), (q43 x) -> True -> (decide (q10 <= x.1) = true -> q11 <= q12 /\ (q11 <= IntKind.wrap IntKind.u8 (q9 x) /\ IntKind.wrap IntKind.u8 (q9 x) < (↑(256 : Nat) : Int)) /\ wrZ (q12 +
  wrZ (List.getD q44 (Int.toNat (IntKind.wrap IntKind.u8 (q9 x))) q11)) = if x.1 < q10 then (↑(lastb (q108 x) q109) : Int) else q12 + (↑(lastb (Int.toNat x.1 / (256 : Nat)) q109) : Int)) /\
  (decide (q10 <= x.1) = false -> (q11 <= IntKind.wrap IntKind.u8 x.1 /\ IntKind.wrap IntKind.u8 x.1 < (↑(256 : Nat) : Int)) /\ wrZ (q11 + wrZ (List.getD q44 (Int.toNat (IntKind.wrap
  IntKind.u8 x.1)) q11)) = if x.1 < q10 then (↑(lastb (q108 x) q109) : Int) else q12 + (↑(lastb (Int.toNat x.1 / (256 : Nat)) q109) : Int))
theorem e105 : t105 = Con.vc c_math_bits_Len16 GL (mkEnv ty [] [] [] [0, 2, 4]) {} Try.f105.ntmps Try.f105.results.toList (bodyOf Try.f105) := by kernel_rfl
theorem k105 : t105 := by
  unfold t105
  delta q0 q43 q10 q11 q12 q9 wrZ q44 q108 q109 q104 q120 q121 q119
  rintro ⟨x, _⟩ hx hp
  obtain ⟨n, rfl, hn⟩ := u16_nat hx.1
  simp only [true_and, and_true, eq_self_iff_true, implies_true, reduceCtorEq, false_implies, true_implies, decide_eq_true_eq, decide_eq_false_iff_not, beq_self_eq_true, Bool.not_eq_true', ne_eq, Decidable.not_not, List.nil_append, List.length_singleton, List.length_cons, List.length_nil, Nat.zero_add, Nat.add_zero, Nat.mul_one, and_self, beq_iff_eq, Bool.not_true, Bool.not_false, Bool.not_eq_false', Bool.cond_false_right, Bool.and_eq_true, imp_self, Bool.not_eq_true, Bool.cond_true_left, Bool.or_eq_true, fdiv8, Int.toNat_natCast]
  have tab : ∀ i : Fin 256, List.getD (bs { data := List.toArray (List.append (List.append [(0 : UInt8), (1 : UInt8), (2 : UInt8), (2 : UInt8), (3 : UInt8), (3 : UInt8), (3 : UInt8), (3 : UInt8), (4 : UInt8), (4 : UInt8), (4 : UInt8), (4 : UInt8), (4 : UInt8), (4 : UInt8), (4 : UInt8), (4 : UInt8), (5 : UInt8), (5 : UInt8), (5 : UInt8), (5 : UInt8), (5 : UInt8), (5 : UInt8), (5 : UInt8), (5 : UInt8), (5 : UInt8), (5 : UInt8), (5 : UInt8), (5 : UInt8), (5 : UInt8), (5 : UInt8), (5 : UInt8), (5 : UInt8), (6 : UInt8), (6 : UInt8), (6 : UInt8), (6 : UInt8), (6 : UInt8), (6 : UInt8), (6 : UInt8), (6 : UInt8), (6 : UInt8), (6 : UInt8), (6 : UInt8), (6 : UInt8), (6 : UInt8), (6 : UInt8), (6 : UInt8), (6 : UInt8), (6 : UInt8), (6 : UInt8), (6 : UInt8), (6 : UInt8), (6 : UInt8), (6 : UInt8), (6 : UInt8), (6 : UInt8), (6 : UInt8), (6 : UInt8), (6 : UInt8), (6 : UInt8), (6 : UInt8), (6 : UInt8), (6 : UInt8), (6 : UInt8)] [(7 : UInt8), (7 : UInt8), (7 : UInt8), (7 : UInt8), (7 : UInt8), (7 : UInt8), (7 : UInt8), (7 : UInt8), (7 : UInt8), (7 : UInt8), (7 : UInt8), (7 : UInt8), (7 : UInt8), (7 : UInt8), (7 : UInt8), (7 : UInt8), (7 : UInt8), (7 : UInt8), (7 : UInt8), (7 : UInt8), (7 : UInt8), (7 : UInt8), (7 : UInt8), (7 : UInt8), (7 : UInt8), (7 : UInt8), (7 : UInt8), (7 : UInt8), (7 : UInt8), (7 : UInt8), (7 : UInt8), (7 : UInt8), (7 : UInt8), (7 : UInt8), (7 : UInt8), (7 : UInt8), (7 : UInt8), (7 : UInt8), (7 : UInt8), (7 : UInt8), (7 : UInt8), (7 : UInt8), (7 : UInt8), (7 : UInt8), (7 : UInt8), (7 : UInt8), (7 : UInt8), (7 : UInt8), (7 : UInt8), (7 : UInt8), (7 : UInt8), (7 : UInt8), (7 : UInt8), (7 : UInt8), (7 : UInt8), (7 : UInt8), (7 : UInt8), (7 : UInt8), (7 : UInt8), (7 : UInt8), (7 : UInt8), (7 : UInt8), (7 : UInt8), (7 : UInt8)]) (List.append [(8 : UInt8), (8 : UInt8), (8 : UInt8), (8 : UInt8), (8 : UInt8), (8 : UInt8), (8 : UInt8), (8 : UInt8), (8 : UInt8), (8 : UInt8), (8 : UInt8), (8 : UInt8), (8 : UInt8), (8 : UInt8), (8 : UInt8), (8 : UInt8), (8 : UInt8), (8 : UInt8), (8 : UInt8), (8 : UInt8), (8 : UInt8), (8 : UInt8), (8 : UInt8), (8 : UInt8), (8 : UInt8), (8 : UInt8), (8 : UInt8), (8 : UInt8), (8 : UInt8), (8 : UInt8), (8 : UInt8), (8 : UInt8), (8 : UInt8), (8 : UInt8), (8 : UInt8), (8 : UInt8), (8 : UInt8), (8 : UInt8), (8 : UInt8), (8 : UInt8), (8 : UInt8), (8 : UInt8), (8 : UInt8), (8 : UInt8), (8 : UInt8), (8 : UInt8), (8 : UInt8), (8 : UInt8), (8 : UInt8), (8 : UInt8), (8 : UInt8), (8 : UInt8), (8 : UInt8), (8 : UInt8), (8 : UInt8), (8 : UInt8), (8 : UInt8), (8 : UInt8), (8 : UInt8), (8 : UInt8), (8 : UInt8), (8 : UInt8), (8 : UInt8), (8 : UInt8)] [(8 : UInt8), (8 : UInt8), (8 : UInt8), (8 : UInt8), (8 : UInt8), (8 : UInt8), (8 : UInt8), (8 : UInt8), (8 : UInt8), (8 : UInt8), (8 : UInt8), (8 : UInt8), (8 : UInt8), (8 : UInt8), (8 : UInt8), (8 : UInt8), (8 : UInt8), (8 : UInt8), (8 : UInt8), (8 : UInt8), (8 : UInt8), (8 : UInt8), (8 : UInt8), (8 : UInt8), (8 : UInt8), (8 : UInt8), (8 : UInt8), (8 : UInt8), (8 : UInt8), (8 : UInt8), (8 : UInt8), (8 : UInt8), (8 : UInt8), (8 : UInt8), (8 : UInt8), (8 : UInt8), (8 : UInt8), (8 : UInt8), (8 : UInt8), (8 : UInt8), (8 : UInt8), (8 : UInt8), (8 : UInt8), (8 : UInt8), (8 : UInt8), (8 : UInt8), (8 : UInt8), (8 : UInt8), (8 : UInt8), (8 : UInt8), (8 : UInt8), (8 : UInt8), (8 : UInt8), (8 : UInt8), (8 : UInt8), (8 : UInt8), (8 : UInt8), (8 : UInt8), (8 : UInt8), (8 : UInt8), (8 : UInt8), (8 : UInt8), (8 : UInt8), (8 : UInt8)])) }) i.val (0 : Int) = (lastb i.val 8 : Int) := by decide +kernel
  have hl : ∀ b : Nat, lastb b 8 ≤ 8 := fun b => lastb_le b 8
  refine ⟨fun h => ?_, fun h => ?_⟩
  . have e : IntKind.wrap .u8 ((n / 256 : Nat) : Int) = ((n / 256 : Nat) : Int) := by simp [IntKind.wrap, IntKind.signed, IntKind.bits]; omega
    rw [e, Int.toNat_natCast, tab ⟨n / 256, by omega⟩, if_neg (by omega)]
    have := hl (n / 256)
    simp only
    rw [wrapk (lastb (n / 256) 8 : Int) (by omega) (by omega), wrapk _ (by omega) (by omega)]
    exact ⟨by decide, by omega, rfl⟩
  . have e : IntKind.wrap .u8 (n : Int) = (n : Int) := by simp [IntKind.wrap, IntKind.signed, IntKind.bits]; omega
    rw [e, Int.toNat_natCast, tab ⟨n, by omega⟩, if_pos (by omega)]
    have := hl n
    simp only
    rw [wrapk (lastb n 8 : Int) (by omega) (by omega), wrapk _ (by omega) (by omega)]
    exact ⟨by omega, by omega⟩
theorem h105 : c_math_bits_Len16.ok Try.prog GL 105 := con_ok (H := {}) (mkEnv_ok (gl := GL) (l := []) (q := []) (d := []) _ tyOk (by kernel_rfl) trivial trivial trivial) (by kernel_rfl) (by kernel_rfl) (Eq.mp e105 k105)
def t54 : Prop :=
  ∀ (x : q0), (q43 x) -> True -> True /\ (∀ (y : q0), (q43 y) -> y.1 = (↑(prev (Int.toNat x.1 / (256 : Nat)) q109) : Int) + q10 * (↑(prev (Int.toNat x.1 % (256 : Nat)) q109) : Int) -> (decide
  (x.1 = q11) = true -> [q11] = FlagsD (q108 x)) /\ (decide (x.1 = q11) = false -> (decide (x.1 < q10) = true -> True /\ (∀ (y_1 : q0), (wiZ y_1.1 /\ True) -> (q45 y_1 x) -> q11 <= q12 /\
  [IntKind.wrap IntKind.u8 (wrZ (q12 - y_1.1)), IntKind.wrap IntKind.u8 (q9 y)] = FlagsD (q108 x)) /\ True) /\ (decide (x.1 < q10) = false -> True /\ (∀ (y_1 : q0), (wiZ y_1.1 /\ True) ->
  (q45 y_1 x) -> q11 <= q12 /\ [IntKind.wrap IntKind.u8 (wrZ ((16 : Int) - y_1.1)), IntKind.wrap IntKind.u8 (q9 y), IntKind.wrap IntKind.u8 y.1] = FlagsD (q108 x)) /\ True))) /\ True
theorem e54 : t54 = Con.vc c_num_Flags GL (mkEnv ty [(104, conSem c_math_bits_Reverse16), (105, conSem c_math_bits_Len16)] [] [] [0, 2, 3, 6, 10]) {} Try.f54.ntmps Try.f54.results.toList (bodyOf Try.f54) := by kernel_rfl
theorem k54 : t54 := by
  unfold t54
  delta q0 q43 q109 q10 q11 q108 wiZ q45 q12 wrZ q9 q104
  rintro ⟨x, _⟩ hx hp
  obtain ⟨n, rfl, hn⟩ := u16_nat hx.1
  simp only [true_and, and_true, eq_self_iff_true, implies_true, reduceCtorEq, false_implies, true_implies, decide_eq_true_eq, decide_eq_false_iff_not, beq_self_eq_true, Bool.not_eq_true', ne_eq, Decidable.not_not, List.nil_append, List.length_singleton, List.length_cons, List.length_nil, Nat.zero_add, Nat.add_zero, Nat.mul_one, and_self, beq_iff_eq, Bool.not_true, Bool.not_false, Bool.not_eq_false', Bool.cond_false_right, Bool.and_eq_true, imp_self, Bool.not_eq_true, Bool.cond_true_left, Bool.or_eq_true, Int.toNat_natCast]
  rintro ⟨r, _⟩ hw er
  simp only at er ⊢
  have p1 := prev_lt (n / 256) (by omega)
  have p2 := prev_lt (n % 256) (by omega)
  have er' : r = ((prev (n / 256) 8 + 256 * prev (n % 256) 8 : Nat) : Int) := by rw [er]; omega
  have e8 : IntKind.wrap .u8 (r.fdiv (2 ^ 8)) = (prev (n % 256) 8 : Int) := by
    rw [er', fdiv8]; simp [IntKind.wrap, IntKind.signed, IntKind.bits]; omega
  have e9 : IntKind.wrap .u8 r = (prev (n / 256) 8 : Int) := by
    rw [er']; simp [IntKind.wrap, IntKind.signed, IntKind.bits]; omega
  refine ⟨fun h => ?_, fun h => ⟨fun h1 => ?_, fun h1 => ?_⟩⟩
  . have : n = 0 := by omega
    subst this; rfl
  . rintro ⟨l, _⟩ hwl el
    simp only at el ⊢
    rw [if_pos h1] at el
    have hl := lastb_le n 8
    have e2 : IntKind.wrap .u8 (IntKind.wrap .i64 (8 - l)) = 8 - (lastb n 8 : Int) := by
      rw [el, wrapk _ (by omega) (by omega)]; simp [IntKind.wrap, IntKind.signed, IntKind.bits]; omega
    refine ⟨by decide, ?_⟩
    rw [e2, e8, FlagsD, if_neg (by omega), if_pos (by omega), Nat.mod_eq_of_lt (show n < 256 by omega)]
  . rintro ⟨l, _⟩ hwl el
    simp only at el ⊢
    rw [if_neg h1] at el
    have hl := lastb_le (n / 256) 8
    have e2 : IntKind.wrap .u8 (IntKind.wrap .i64 (16 - l)) = 8 - (lastb (n / 256) 8 : Int) := by
      rw [el, wrapk _ (by omega) (by omega)]; simp [IntKind.wrap, IntKind.signed, IntKind.bits]; omega
    refine ⟨by decide, ?_⟩
    rw [e2, e8, e9, FlagsD, if_neg (by omega), if_neg (by omega)]
theorem h54 : c_num_Flags.ok Try.prog GL 54 := con_ok (H := {}) (mkEnv_ok (gl := GL) (l := [(104, conSem c_math_bits_Reverse16), (105, conSem c_math_bits_Len16)]) (q := []) (d := []) _ tyOk (by kernel_rfl) ⟨h104.call, h105.call, trivial⟩ trivial trivial) (by kernel_rfl) (by kernel_rfl) (Eq.mp e54 k54)
def t55 : Prop :=
  ∀ (x : q0), (q43 x) -> True -> ∃ (I : Int × Int × Unit -> Unit -> Prop), ∃ (μ : Int × Int × Unit -> Unit -> Nat), (Value.slice none q17 q17 = Value.slice none q17 q17 /\ x.1 = x.1 /\ I
  (q11, q142, ()) ()) /\ ∀ (y : Int × Int × Unit) (z : Unit), (wiZ y.1 /\ wiZ y.2.1 /\ True) -> True -> I y z -> (decide (y.1 < (16 : Int)) = true -> q11 <= y.1 /\ q104 ≠ q11 /\ (decide
  (Int.tmod (Int.fdiv x.1 (q104 ^ min (Int.toNat y.1) (16 : Nat))) q104 = q105) = true -> Value.slice none q17 q17 = Value.slice none q17 q17 /\ x.1 = x.1 /\ I (wrZ (y.1 + q105), y.1, ()) ()
  /\ μ (wrZ (y.1 + q105), y.1, ()) () < μ y z) /\ (decide (Int.tmod (Int.fdiv x.1 (q104 ^ min (Int.toNat y.1) (16 : Nat))) q104 = q105) = false -> Value.slice none q17 q17 = Value.slice none
  q17 q17 /\ x.1 = x.1 /\ I (wrZ (y.1 + q105), y.2.1, ()) () /\ μ (wrZ (y.1 + q105), y.2.1, ()) () < μ y z)) /\ (decide (y.1 < (16 : Int)) = false -> ∃ (I : q2), ∃ (μ : q3), (Value.bool false
  = Value.bool false /\ y.1 = y.1 /\ y.2.1 = y.2.1 /\ Value.slice none q17 q17 = Value.slice none q17 q17 /\ x.1 = x.1 /\ I (q11, ()) ([], ())) /\ ∀ (y_1 : q0) (z : q1), (wiZ y_1.1 /\ True)
  -> (q16 z) -> I y_1 z -> (decide (y_1.1 <= y.2.1) = true -> q12 ≠ q11 /\ (decide (Int.tmod y_1.1 q12 = q11) = true -> q17 < q18 /\ (List.length z.1 + q18) * q18 <= q14 /\ List.length z.1 +
  q18 <= q13 /\ q11 <= y_1.1 /\ q104 ≠ q11 /\ (decide (q48 x y_1) = true -> q12 ≠ q11 /\ q12 ≠ q11 /\ (q11 <= wrZ (q50 y_1) /\ wrZ (q50 y_1) < (lnZ (z.1 ++ [q11]))) /\ q12 ≠ q11 /\ q11 <=
  Int.tmod y_1.1 q12 /\ (q11 <= wrZ (q50 y_1) /\ wrZ (q50 y_1) < (lnZ (z.1 ++ [q11]))) /\ Value.bool false = Value.bool false /\ y.1 = y.1 /\ y.2.1 = y.2.1 /\ Value.slice none q17 q17 =
  Value.slice none q17 q17 /\ x.1 = x.1 /\ I (wrZ (q36 y_1), ()) (List.set (z.1 ++ [q11]) (q49 y_1) (q46 z y_1), ()) /\ μ (wrZ (q36 y_1), ()) (List.set (z.1 ++ [q11]) (q49 y_1) (q46 z y_1),
  ()) < μ y_1 z) /\ (decide (q48 x y_1) = false -> Value.bool false = Value.bool false /\ y.1 = y.1 /\ y.2.1 = y.2.1 /\ Value.slice none q17 q17 = Value.slice none q17 q17 /\ x.1 = x.1 /\ I
  (wrZ (q36 y_1), ()) (z.1 ++ [q11], ()) /\ μ (wrZ (q36 y_1), ()) (z.1 ++ [q11], ()) < μ y_1 z)) /\ (decide (Int.tmod y_1.1 q12 = q11) = false -> q11 <= y_1.1 /\ q104 ≠ q11 /\ (decide (q48 x
  y_1) = true -> q12 ≠ q11 /\ q12 ≠ q11 /\ (q11 <= wrZ (q50 y_1) /\ wrZ (q50 y_1) < (lnZ z.1)) /\ q12 ≠ q11 /\ q11 <= Int.tmod y_1.1 q12 /\ (q11 <= wrZ (q50 y_1) /\ wrZ (q50 y_1) < (lnZ z.1))
  /\ Value.bool false = Value.bool false /\ y.1 = y.1 /\ y.2.1 = y.2.1 /\ Value.slice none q17 q17 = Value.slice none q17 q17 /\ x.1 = x.1 /\ I (wrZ (q36 y_1), ()) (List.set z.1 (q49 y_1)
  (q47 z y_1), ()) /\ μ (wrZ (q36 y_1), ()) (List.set z.1 (q49 y_1) (q47 z y_1), ()) < μ y_1 z) /\ (decide (q48 x y_1) = false -> Value.bool false = Value.bool false /\ y.1 = y.1 /\ y.2.1 =
  y.2.1 /\ Value.slice none q17 q17 = Value.slice none q17 q17 /\ x.1 = x.1 /\ I (wrZ (q36 y_1), ()) (z.1, ()) /\ μ (wrZ (q36 y_1), ()) (z.1, ()) < μ y_1 z))) /\ (decide (y_1.1 <= y.2.1) =
  false -> (decide (q11 <= y.2.1) = true -> q12 ≠ q11 /\ q17 < q18 /\ (List.length [IntKind.wrap IntKind.u8 (wrZ ((7 : Int) - Int.tmod y.2.1 q12))] + List.length z.1) * q18 <= q14 /\
  List.length [IntKind.wrap IntKind.u8 (wrZ ((7 : Int) - Int.tmod y.2.1 q12))] + List.length z.1 <= q13 /\ [IntKind.wrap IntKind.u8 (wrZ ((7 : Int) - Int.tmod y.2.1 q12))] ++ z.1 = FlagsD
  (q108 x)) /\ (decide (q11 <= y.2.1) = false -> q17 < q18 /\ (q18 + List.length z.1) * q18 <= q14 /\ q18 + List.length z.1 <= q13 /\ [IntKind.wrap IntKind.u8 q11] ++ z.1 = FlagsD (q108 x))))
theorem e55 : t55 = Con.vc c_r02_Flags GL (mkEnv ty [] [] [] [0, 2, 3, 4, 5, 6, 7, 9, 16, 20, 25, 33, 48]) {} Try.f55.ntmps Try.f55.results.toList (bodyOf Try.f55) := by kernel_rfl
theorem k55 : t55 := by
  unfold t55
  delta q0 q43 q17 q11 q142 wiZ q104 q105 wrZ q2 q3 q1 q16 q12 q18 q14 q13 q48 q50 lnZ q36 q49 q46 q47 q108 wyZ q109 q117 q130
  rintro ⟨x, _⟩ hx hp
  obtain ⟨n, rfl, hn⟩ := u16_nat hx.1
  simp only [true_and, and_true, eq_self_iff_true, implies_true, reduceCtorEq, false_implies, true_implies, decide_eq_true_eq, decide_eq_false_iff_not, beq_self_eq_true, Bool.not_eq_true', ne_eq, Decidable.not_not, List.nil_append, List.length_singleton, List.length_cons, List.length_nil, Nat.zero_add, Nat.add_zero, Nat.mul_one, and_self, beq_iff_eq, Bool.not_true, Bool.not_false, Bool.not_eq_false', Bool.cond_false_right, Bool.and_eq_true, imp_self, Bool.not_eq_true, Bool.cond_true_left, Bool.or_eq_true, Int.toNat_natCast]
  refine ⟨fun y _ => 0 ≤ y.1 ∧ y.1 ≤ 16 ∧ y.2.1 = (lastb n y.1.toNat : Int) - 1, fun y _ => (16 - y.1).toNat, ⟨by omega, by omega, rfl⟩, ?_⟩
  rintro ⟨i, l, _⟩ _ hw ⟨h1, h2, h3⟩
  simp only at h1 h2 h3 hw ⊢
  obtain ⟨j, rfl⟩ : ∃ j : Nat, i = j := ⟨i.toNat, by omega⟩
  rw [Int.toNat_natCast] at h3 ⊢
  refine ⟨fun hc => ⟨by omega, by decide, ?_, ?_⟩, fun hc => ?_⟩
  . rw [bitI n j (by omega), wrapk _ (by omega) (by omega)]
    refine fun hb => ⟨⟨by omega, by omega, ?_⟩, by omega⟩
    rw [show ((j : Int) + 1).toNat = j + 1 by omega]
    simp only [lastb]
    rw [if_pos (by omega)]
    omega
  . rw [bitI n j (by omega), wrapk _ (by omega) (by omega)]
    refine fun hb => ⟨⟨by omega, by omega, ?_⟩, by omega⟩
    rw [show ((j : Int) + 1).toNat = j + 1 by omega]
    simp only [lastb]
    rw [if_neg (by omega)]
    exact h3
  . have : j = 16 := by omega
    subst this
    have hL := lastb_le n 16
    generalize eL : lastb n 16 = L at h3 hL
    refine ⟨fun y z => 0 ≤ y.1 ∧ y.1 ≤ L ∧ z.1 = bytesAt n y.1.toNat, fun y _ => (L - y.1).toNat, ⟨by omega, by omega, rfl⟩, ?_⟩
    rintro ⟨i, _⟩ ⟨z, _⟩ hwi hwz ⟨g1, g2, g3⟩
    simp only at g1 g2 g3 hwi hwz ⊢
    obtain ⟨j, rfl⟩ : ∃ j : Nat, i = j := ⟨i.toNat, by omega⟩
    rw [Int.toNat_natCast] at g3 ⊢
    subst g3
    have hlen := bytesAt_len n j
    refine ⟨fun hc => ?_, fun hc => ⟨fun h0 => ⟨by decide, by decide, by omega, by omega, ?_⟩, fun h0 => ⟨by decide, by omega, by omega, ?_⟩⟩⟩
    . have em : (j : Int).tmod 8 = ((j % 8 : Nat) : Int) := by rw [Int.tmod_eq_emod_of_nonneg (by omega)]; rfl
      have ed : (j : Int).tdiv 8 = ((j / 8 : Nat) : Int) := by rw [Int.tdiv_eq_ediv_of_nonneg (by omega)]; rfl
      rw [em, ed, bitI n j (by omega), wrapk ((j / 8 : Nat) : Int) (by omega) (by omega), wrapk ((j : Int) + 1) (by omega) (by omega), Int.toNat_natCast, Int.toNat_natCast, show ((j : Int) + 1).toNat = j + 1 by omega]
      have hd : Kd.dft (Kd.int .u8) = (0 : Int) := rfl
      rw [hd]
      refine ⟨by decide, fun hm => ⟨by decide, by omega, by omega, by omega, by decide, fun hb => ?_, fun hb => ?_⟩, fun hm => ⟨by omega, by decide, fun hb => ?_, fun hb => ?_⟩⟩
      . have hz := bytes_set n j hn (by omega) (bytesAt n j ++ [0]) (by rw [if_pos (by omega)]) (by omega)
        exact ⟨by decide, by decide, ⟨by omega, by have := hz.2; omega⟩, by decide, by omega, ⟨by omega, by have := hz.2; omega⟩, ⟨by omega, by omega, hz.1⟩, by omega⟩
      . have hz := bytes_skip n j (by omega) (by omega)
        rw [if_pos (by omega)] at hz
        exact ⟨⟨by omega, by omega, hz⟩, by omega⟩
      . have hz := bytes_set n j hn (by omega) (bytesAt n j) (by rw [if_neg (by omega)]) (by omega)
        exact ⟨by decide, by decide, ⟨by omega, by have := hz.2; omega⟩, by decide, by omega, ⟨by omega, by have := hz.2; omega⟩, ⟨by omega, by omega, hz.1⟩, by omega⟩
      . have hz := bytes_skip n j (by omega) (by omega)
        rw [if_neg (by omega)] at hz
        exact ⟨⟨by omega, by omega, hz⟩, by omega⟩
    . have hj : j = L := by omega
      have := (flags_end n hn).2 (by omega)
      rw [hj, h3, ← eL]
      exact this
    . have hj : j = 0 := by omega
      have := (flags_end n hn).1 (by omega)
      rw [hj]
      exact this
theorem h55 : c_r02_Flags.ok Try.prog GL 55 := con_ok (H := {}) (mkEnv_ok (gl := GL) (l := []) (q := []) (d := []) _ tyOk (by kernel_rfl) trivial trivial trivial) (by kernel_rfl) (by kernel_rfl) (Eq.mp e55 k55)
end Go.Proofs.Ytbdfeddakniaeaa
end
