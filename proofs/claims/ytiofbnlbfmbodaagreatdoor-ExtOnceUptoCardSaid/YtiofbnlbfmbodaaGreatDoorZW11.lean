/- Texts of a verified walk, led together: NumA, NumW. -/
import Derived.Test.YtiofbnlbfmbodaaGreatDoorZW10
import Derived.Test.YtiofbnlbfmbodaaGreatDoorZV17
import Derived.Test.YtiofbnlbfmbodaaGreatDoorZV10
set_option linter.unusedVariables false
set_option linter.unusedSimpArgs false
section
namespace Go.Proofs.YtiofbnlbfmbodaaGreatDoor
open Go Go.Vc Go.Pl Go.Proofs
def c_num_Bool : Con := { args := [.dat .bool], res := [.own 5 U8], pre := fun _ => True, post := fun x y => y.1 = BoolD x.1 }
def c_num_Int : Con := { args := [.dat I64], res := [.dat BY], pre := fun _ => True, post := fun x y => y.1 = IntD x.1 }
def c_math_bits_Reverse16 : Con := { args := [.dat (.int .u16)], res := [.dat (.int .u16)], pre := fun _ => True, post := fun x y => y.1 = (prev (x.1.toNat / 256) 8 : Int) + 256 * (prev (x.1.toNat % 256) 8 : Int) }
def c_math_bits_Len16 : Con := { args := [.dat (.int .u16)], res := [.dat I64], pre := fun _ => True, post := fun x y => y.1 = if x.1 < 256 then (lastb x.1.toNat 8 : Int) else 8 + (lastb (x.1.toNat / 256) 8 : Int) }
def c_num_Flags : Con := { args := [.dat (.int .u16)], res := [.own 5 U8], pre := fun _ => True, post := fun x y => y.1 = FlagsD x.1.toNat }
def c_num_shortest : Con := { args := [.dat BY], res := [.dat .bool], pre := fun _ => True, post := fun x y => y.1 = ShortD x.1 }
def c_num_ToInt : Con := { args := [.dat BY], res := [.dat I64, .dat I64], pre := fun _ => True, post := fun x y => (y.1, y.2.1) = ToIntD x.1 }
def c_num_ToBool : Con := { args := [.dat BY], res := [.dat .bool, .dat I64], pre := fun _ => True, post := fun x y => (y.1, y.2.1) = ToBoolD x.1 }
def c_num_fits : Con := { args := [.dat BY, .dat I64], res := [.dat .bool], pre := fun _ => True, post := fun x y => y.1 = FitsD x.1 x.2.1 }
def c_num_ToBits : Con := { args := [.dat BY], res := [.dat BY, .dat I64, .dat I64], pre := fun x => lenB x.1 ≤ LIM, post := fun x y => (y.1, y.2.1, y.2.2.1) = ToBitsD x.1 }
def c_num_ToFlags : Con := { args := [.dat BY], res := [.dat (.int .u16), .dat I64], pre := fun x => lenB x.1 ≤ LIM, post := fun x y => (y.1, y.2.1) = ToFlagsD x.1 }
end Go.Proofs.YtiofbnlbfmbodaaGreatDoor
end
section
namespace Go.Proofs.YtiofbnlbfmbodaaGreatDoor
open Go Go.Vc Go.Pl Go.Proofs
abbrev q434 (p0 : q5) (p1 : q1) := (List.getD p0.1 (Int.toNat p1.1) q456 = (255 : Int))
abbrev q214 (p0 : q5) (p1 : q1) := (bif decide (q434 p0 p1) then decide ((128 : Int) <= List.getD p0.1 (Int.toNat (wrZ (p1.1 + (1 : Int)))) q375) else false)
abbrev q435 (p0 : q5) (p1 : q1) := (List.getD p0.1 (Int.toNat p1.1) q456 = (0 : Int))
abbrev q215 (p0 : q5) (p1 : q1) := (bif decide (q435 p0 p1) then decide (List.getD p0.1 (Int.toNat (wrZ (p1.1 + (1 : Int)))) q375 < (128 : Int)) else false)
abbrev q358 (p0 : q5) (p1 : q1) := (decide (q434 p0 p1) == true)
abbrev q216 (p0 : q5) (p1 : q1) := (decide (q434 p0 p1) = true -> (q358 p0 p1) = true /\ True)
abbrev q359 (p0 : q5) (p1 : q1) := (decide (q435 p0 p1) == true)
abbrev q217 (p0 : q5) (p1 : q1) := (decide (q435 p0 p1) = true -> (q359 p0 p1) = true /\ True)
abbrev q218 (p0 : q1) (p1 : q1) := (IntKind.wrap IntKind.u8 (Int.fdiv p0.1 (q343 ^ min (Int.toNat (wrZ ((56 : Int) - wrZ ((8 : Int) * p1.1)))) (64 : Nat))))
abbrev q219 (p0 : q1) (p1 : q5) := (q332 <= wrZ (p0.1 + (1 : Int)) /\ wrZ (p0.1 + (1 : Int)) < (↑q360 : Int) /\ wrZ (p0.1 + (1 : Int)) < (lnZ p1.1))
abbrev q220 (p0 : q5) (p1 : q1) := (List.getD p0.1 (q330 p1) q375 = (255 : Int))
abbrev q221 (p0 : q5) (p1 : q1) := (List.getD p0.1 (q330 p1) q375 = q332)
abbrev q400 := (8 : UInt8)
abbrev q401 := (6 : UInt8)
abbrev q402 := (7 : UInt8)
abbrev q222 := (bs { data := List.toArray (List.append (List.append [(0 : UInt8), (128 : UInt8), (64 : UInt8), (192 : UInt8), (32 : UInt8), (160 : UInt8), (96 : UInt8), (224 : UInt8), (16 :
  UInt8), (144 : UInt8), (80 : UInt8), (208 : UInt8), (48 : UInt8), (176 : UInt8), (112 : UInt8), (240 : UInt8), q400, (136 : UInt8), (72 : UInt8), (200 : UInt8), (40 : UInt8), (168 : UInt8),
  (104 : UInt8), (232 : UInt8), (24 : UInt8), (152 : UInt8), (88 : UInt8), (216 : UInt8), (56 : UInt8), (184 : UInt8), (120 : UInt8), (248 : UInt8), (4 : UInt8), (132 : UInt8), (68 : UInt8),
  (196 : UInt8), (36 : UInt8), (164 : UInt8), (100 : UInt8), (228 : UInt8), (20 : UInt8), (148 : UInt8), (84 : UInt8), (212 : UInt8), (52 : UInt8), (180 : UInt8), (116 : UInt8), (244 :
  UInt8), (12 : UInt8), (140 : UInt8), (76 : UInt8), (204 : UInt8), (44 : UInt8), (172 : UInt8), (108 : UInt8), (236 : UInt8), (28 : UInt8), (156 : UInt8), (92 : UInt8), (220 : UInt8), (60 :
  UInt8), (188 : UInt8), (124 : UInt8), (252 : UInt8)] [(2 : UInt8), (130 : UInt8), (66 : UInt8), (194 : UInt8), (34 : UInt8), (162 : UInt8), (98 : UInt8), (226 : UInt8), (18 : UInt8), (146 :
  UInt8), (82 : UInt8), (210 : UInt8), (50 : UInt8), (178 : UInt8), (114 : UInt8), (242 : UInt8), (10 : UInt8), (138 : UInt8), (74 : UInt8), (202 : UInt8), (42 : UInt8), (170 : UInt8), (106 :
  UInt8), (234 : UInt8), (26 : UInt8), (154 : UInt8), (90 : UInt8), (218 : UInt8), (58 : UInt8), (186 : UInt8), (122 : UInt8), (250 : UInt8), q401, (134 : UInt8), (70 : UInt8), (198 : UInt8),
  (38 : UInt8), (166 : UInt8), (102 : UInt8), (230 : UInt8), (22 : UInt8), (150 : UInt8), (86 : UInt8), (214 : UInt8), (54 : UInt8), (182 : UInt8), (118 : UInt8), (246 : UInt8), (14 : UInt8),
  (142 : UInt8), (78 : UInt8), (206 : UInt8), (46 : UInt8), (174 : UInt8), (110 : UInt8), (238 : UInt8), (30 : UInt8), (158 : UInt8), (94 : UInt8), (222 : UInt8), (62 : UInt8), (190 : UInt8),
  (126 : UInt8), (254 : UInt8)]) (List.append [(1 : UInt8), (129 : UInt8), (65 : UInt8), (193 : UInt8), (33 : UInt8), (161 : UInt8), (97 : UInt8), (225 : UInt8), (17 : UInt8), (145 : UInt8),
  (81 : UInt8), (209 : UInt8), (49 : UInt8), (177 : UInt8), (113 : UInt8), (241 : UInt8), (9 : UInt8), (137 : UInt8), (73 : UInt8), (201 : UInt8), (41 : UInt8), (169 : UInt8), (105 : UInt8),
  (233 : UInt8), (25 : UInt8), (153 : UInt8), (89 : UInt8), (217 : UInt8), (57 : UInt8), (185 : UInt8), (121 : UInt8), (249 : UInt8), (5 : UInt8), (133 : UInt8), (69 : UInt8), (197 : UInt8),
  (37 : UInt8), (165 : UInt8), (101 : UInt8), (229 : UInt8), (21 : UInt8), (149 : UInt8), (85 : UInt8), (213 : UInt8), (53 : UInt8), (181 : UInt8), (117 : UInt8), (245 : UInt8), (13 : UInt8),
  (141 : UInt8), (77 : UInt8), (205 : UInt8), (45 : UInt8), (173 : UInt8), (109 : UInt8), (237 : UInt8), (29 : UInt8), (157 : UInt8), (93 : UInt8), (221 : UInt8), (61 : UInt8), (189 : UInt8),
  (125 : UInt8), (253 : UInt8)] [(3 : UInt8), (131 : UInt8), (67 : UInt8), (195 : UInt8), (35 : UInt8), (163 : UInt8), (99 : UInt8), (227 : UInt8), (19 : UInt8), (147 : UInt8), (83 : UInt8),
  (211 : UInt8), (51 : UInt8), (179 : UInt8), (115 : UInt8), (243 : UInt8), (11 : UInt8), (139 : UInt8), (75 : UInt8), (203 : UInt8), (43 : UInt8), (171 : UInt8), (107 : UInt8), (235 :
  UInt8), (27 : UInt8), (155 : UInt8), (91 : UInt8), (219 : UInt8), (59 : UInt8), (187 : UInt8), (123 : UInt8), (251 : UInt8), q402, (135 : UInt8), (71 : UInt8), (199 : UInt8), (39 : UInt8),
  (167 : UInt8), (103 : UInt8), (231 : UInt8), (23 : UInt8), (151 : UInt8), (87 : UInt8), (215 : UInt8), (55 : UInt8), (183 : UInt8), (119 : UInt8), (247 : UInt8), (15 : UInt8), (143 :
  UInt8), (79 : UInt8), (207 : UInt8), (47 : UInt8), (175 : UInt8), (111 : UInt8), (239 : UInt8), (31 : UInt8), (159 : UInt8), (95 : UInt8), (223 : UInt8), (63 : UInt8), (191 : UInt8), (127 :
  UInt8), (255 : UInt8)])) })
abbrev q223 (p0 : q1) := (↑(BitVec.toNat (BitVec.ofInt (16 : Nat) p0.1 &&& BitVec.ofInt (16 : Nat) (255 : Int))) : Int)
abbrev q224 (p0 : q1) := (Kd.wf (Kd.int IntKind.u16) p0.1 /\ True)
abbrev q225 := (bs { data := List.toArray (List.append (List.append [(0 : UInt8), (1 : UInt8), (2 : UInt8), (2 : UInt8), (3 : UInt8), (3 : UInt8), (3 : UInt8), (3 : UInt8), (4 : UInt8), (4
  : UInt8), (4 : UInt8), (4 : UInt8), (4 : UInt8), (4 : UInt8), (4 : UInt8), (4 : UInt8), (5 : UInt8), (5 : UInt8), (5 : UInt8), (5 : UInt8), (5 : UInt8), (5 : UInt8), (5 : UInt8), (5 :
  UInt8), (5 : UInt8), (5 : UInt8), (5 : UInt8), (5 : UInt8), (5 : UInt8), (5 : UInt8), (5 : UInt8), (5 : UInt8), q401, q401, q401, q401, q401, q401, q401, q401, q401, q401, q401, q401, q401,
  q401, q401, q401, q401, q401, q401, q401, q401, q401, q401, q401, q401, q401, q401, q401, q401, q401, q401, q401] [q402, q402, q402, q402, q402, q402, q402, q402, q402, q402, q402, q402,
  q402, q402, q402, q402, q402, q402, q402, q402, q402, q402, q402, q402, q402, q402, q402, q402, q402, q402, q402, q402, q402, q402, q402, q402, q402, q402, q402, q402, q402, q402, q402,
  q402, q402, q402, q402, q402, q402, q402, q402, q402, q402, q402, q402, q402, q402, q402, q402, q402, q402, q402, q402, q402]) (List.append [q400, q400, q400, q400, q400, q400, q400, q400,
  q400, q400, q400, q400, q400, q400, q400, q400, q400, q400, q400, q400, q400, q400, q400, q400, q400, q400, q400, q400, q400, q400, q400, q400, q400, q400, q400, q400, q400, q400, q400,
  q400, q400, q400, q400, q400, q400, q400, q400, q400, q400, q400, q400, q400, q400, q400, q400, q400, q400, q400, q400, q400, q400, q400, q400, q400] [q400, q400, q400, q400, q400, q400,
  q400, q400, q400, q400, q400, q400, q400, q400, q400, q400, q400, q400, q400, q400, q400, q400, q400, q400, q400, q400, q400, q400, q400, q400, q400, q400, q400, q400, q400, q400, q400,
  q400, q400, q400, q400, q400, q400, q400, q400, q400, q400, q400, q400, q400, q400, q400, q400, q400, q400, q400, q400, q400, q400, q400, q400, q400, q400, q400])) })
abbrev q226 (p0 : q1) (p1 : q1) := (p0.1 = if p1.1 < (256 : Int) then (↑(lastb (q330 p1) q360) : Int) else (8 : Int) + (↑(lastb (Int.toNat p1.1 / (256 : Nat)) q360) : Int))
abbrev q420 (p0 : q5) := (List.getD p0.1 (1 : Nat) q456 < (128 : Int))
abbrev q403 (p0 : q5) := (bif decide (List.getD p0.1 q430 q440 = q421) then decide (q420 p0) else false)
abbrev q404 (p0 : q5) := (List.getD p0.1 q430 q440 = (255 : Int))
abbrev q227 (p0 : q5) := (((q403 p0) == false && (q403 p0) == false) = true -> decide (q404 p0) = true -> ((q403 p0) == false && (q403 p0) == false && decide (q404 p0) == true) = true /\
  True)
abbrev q228 (p0 : q5) := ((q403 p0) == false && (q403 p0) == false && decide (q404 p0) == true)
abbrev q229 (p0 : q5) := ((q403 p0) = false -> ((q403 p0) == false) = true /\ True)
abbrev q230 (p0 : q5) := ((q403 p0) == false && (q403 p0) == false)
abbrev q231 (p0 : q5) := ((q403 p0) = false -> True)
abbrev q405 (p0 : q5) := (List.getD p0.1 q430 q440 = q421)
abbrev q232 (p0 : q5) := (decide (q405 p0) = true -> (decide (q405 p0) == true) = true /\ True)
abbrev q233 (p0 : q5) := ((q403 p0) == false)
abbrev q234 (p0 : q5) := (bif decide (q405 p0) then decide (q420 p0) else false)
abbrev q235 (p0 : q5) := (decide (q405 p0) == true)
abbrev q236 (p0 : q5) := (List.getD p0.1 q347 q375 = (255 : Int))
abbrev q237 (p0 : q5) := (List.getD p0.1 q347 q375 = q332)
abbrev q238 (p0 : q6) (p1 : q5) := (↑(BitVec.toNat (BitVec.ofInt (64 : Nat) (wrZ (p0.2.1 * q343 ^ q360)) ||| BitVec.ofInt (64 : Nat) (wrZ (List.getD (List.drop q416 p1.1) (Int.toNat p0.1)
  q375)))) : Int)
abbrev q239 (p0 : q5) := (q332 <= q334 /\ q334 <= (lnZ p0.1))
abbrev q240 (p0 : q5) := (lnZ (List.drop q416 p0.1))
abbrev q406 (p0 : q5) := (List.getD p0.1 q430 q440 ≠ q421)
abbrev q241 (p0 : q5) := ((decide ((lnZ p0.1) ≠ q334) == false && decide ((lnZ p0.1) ≠ q334) == false) = true -> decide (q406 p0) = true -> (decide ((lnZ p0.1) ≠ q334) == false && decide
  ((lnZ p0.1) ≠ q334) == false && decide (q406 p0) == true) = true /\ True)
abbrev q242 (p0 : q5) := (bif decide ((lnZ p0.1) ≠ q334) then true else bif decide (q406 p0) then decide (List.getD p0.1 q347 q375 ≠ (255 : Int)) else false)
abbrev q243 (p0 : q5) := (decide ((lnZ p0.1) ≠ q334) == false && decide ((lnZ p0.1) ≠ q334) == false && decide (q406 p0) == true)
abbrev q244 (p0 : q5) := (decide ((lnZ p0.1) ≠ q334) == false && decide ((lnZ p0.1) ≠ q334) == false)
abbrev q245 (p0 : q5) := (List.getD p0.1 q347 q375 ≠ q332)
abbrev q246 (p0 : q5) := ((lnZ p0.1) ≠ q334)
abbrev q247 (p0 : q0) := (p0.2.1 = q332)
abbrev q361 (p0 : q5) := (lenB (List.drop q416 p0.1) <= (1000000000 : Nat) /\ (∀ (y : q5), (wyZ y.1 /\ True) -> y.1 = List.drop q416 p0.1 -> (y.1, wrZ (List.getD p0.1 q430 q440), q421) =
  ToBitsD p0.1) /\ True)
abbrev q248 (p0 : q5) := ((q361 p0) /\ True)
abbrev q249 (p0 : q5) := (lenB (List.drop q416 p0.1) <= (1000000000 : Nat) /\ (∀ (y : q5), (wyZ y.1 /\ True) -> y.1 = List.drop q416 p0.1 -> (y.1, wrZ (List.getD p0.1 q347 q375), q332) =
  ToBitsD p0.1 /\ True) /\ True)
abbrev q250 (p0 : q5) := (decide ((lnZ p0.1) = q332) = false -> (decide ((lnZ p0.1) = q332) == false) = true /\ True)
abbrev q251 (p0 : q5) := (decide ((lnZ p0.1) = q332) == false)
abbrev q252 := (2000000 : Nat)
abbrev q253 (p0 : List Int × Int × Int × Unit) := (bif decide (q332 < (lnZ p0.1)) then decide (IntKind.wrap IntKind.u8 (↑(BitVec.toNat (BitVec.ofInt q360 (List.getD p0.1 (Int.toNat (wrZ
  ((lnZ p0.1) - q334))) q375) &&& BitVec.ofInt q360 (IntKind.wrap IntKind.u8 (q334 * q343 ^ min (Int.toNat p0.2.1) q360)))) : Int) = q332) else false)
abbrev q254 (p0 : q6) (p1 : List Int × Int × Int × Unit) := (↑(BitVec.toNat (BitVec.ofInt (16 : Nat) p0.2.1 ||| BitVec.ofInt (16 : Nat) (IntKind.wrap IntKind.u16 (IntKind.wrap IntKind.u16
  (List.getD p1.1 (Int.toNat p0.1) q375) * q343 ^ min (Int.toNat (wrZ ((8 : Int) - wrZ ((8 : Int) * p0.1)))) (16 : Nat))))) : Int)
abbrev q255 (p0 : List Int × Int × Int × Unit) := (decide (q332 < (lnZ p0.1)) = true -> (decide (q332 < (lnZ p0.1)) == true) = true /\ True)
abbrev q256 (p0 : List Int × Int × Int × Unit) := (decide (q332 < (lnZ p0.1)) == true)
def t69 : Prop :=
  ∀ (x : q4), (q41 x) -> True -> (x.1 = true -> [(255 : Int)] = BoolD x.1) /\ (x.1 = false -> [q34] = BoolD x.1)
theorem e69 : t69 = Con.vc c_num_Bool GL (mkEnv ty [] [] [] [0, 2, 3]) {} Tryz.f69.ntmps Tryz.f69.results.toList (bodyOf Tryz.f69) := by kernel_rfl
theorem k69 : t69 := by
  unfold t69
  delta q4 q41 q34 wbZ
  intro x _ _
  exact ⟨fun h => by rw [h]; rfl, fun h => by rw [h]; rfl⟩
theorem h69 : c_num_Bool.ok Tryz.prog GL 69 := con_ok (H := {}) (mkEnv_ok (gl := GL) (l := []) (q := []) (d := []) _ tyOk (by kernel_rfl) trivial trivial trivial) (by kernel_rfl) (by kernel_rfl) (Eq.mp e69 k69)
def t79 : Prop :=
  ∀ (x : q1), (q30 x) -> True -> q66 <= q61 /\ ∃ (I : q14), ∃ (μ : q15), (Value.slice none q63 q63 = Value.slice none q63 q63 /\ x.1 = x.1 /\ I (q34, ()) ([q34, q34, q34, q34, q34, q34, q34,
  q34], ())) /\ ∀ (y : q1) (z : q5), (q30 y) -> (q96 z) -> I y z -> (decide (y.1 < q76) = true -> q34 <= wrZ ((56 : Int) - wrZ (q76 * y.1)) /\ (q34 <= y.1 /\ y.1 < (↑q66 : Int) /\ y.1 < (lnZ
  z.1)) /\ Value.slice none q63 q63 = Value.slice none q63 q63 /\ x.1 = x.1 /\ I (wrZ (q138 y), ()) (List.set z.1 (q330 y) (q218 x y), ()) /\ μ (wrZ (q138 y), ()) (List.set z.1 (q330 y) (q218
  x y), ()) < μ y z) /\ (decide (y.1 < q76) = false -> ∃ (I : Int × Unit -> Unit -> Prop), ∃ (μ : Int × Unit -> Unit -> Nat), (Value.bool false = Value.bool false /\ y.1 = y.1 /\ Value.slice
  none q63 q63 = Value.slice none q63 q63 /\ x.1 = x.1 /\ z.1 = z.1 /\ I (q34, ()) ()) /\ ∀ (y_1 : q1) (z_1 : Unit), (q30 y_1) -> True -> I y_1 z_1 -> (decide (y_1.1 < q415) = true -> (q34 <=
  y_1.1 /\ y_1.1 < (↑q66 : Int) /\ y_1.1 < (lnZ z.1)) /\ (decide (q221 z y_1) = true -> True) /\ (q217 z y_1) /\ (decide (q221 z y_1) = true -> (q359 z y_1) = true /\ (q219 y_1 z) /\ True) /\
  (q217 z y_1) /\ (q217 z y_1) /\ (decide (q221 z y_1) = true -> (q359 z y_1) = true) /\ ((q215 z y_1) = true -> Value.bool false = Value.bool false /\ y.1 = y.1 /\ Value.slice none q63 q63 =
  Value.slice none q63 q63 /\ x.1 = x.1 /\ z.1 = z.1 /\ I (wrZ (q138 y_1), ()) () /\ μ (wrZ (q138 y_1), ()) () < μ y_1 z_1) /\ ((q215 z y_1) = false -> (q34 <= y_1.1 /\ y_1.1 < (↑q66 : Int)
  /\ y_1.1 < (lnZ z.1)) /\ (decide (q220 z y_1) = true -> True) /\ (q216 z y_1) /\ (decide (q220 z y_1) = true -> (q358 z y_1) = true /\ (q219 y_1 z) /\ True) /\ (q216 z y_1) /\ (q216 z y_1)
  /\ (decide (q220 z y_1) = true -> (q358 z y_1) = true) /\ ((q214 z y_1) = true -> Value.bool false = Value.bool false /\ y.1 = y.1 /\ Value.slice none q63 q63 = Value.slice none q63 q63 /\
  x.1 = x.1 /\ z.1 = z.1 /\ I (wrZ (q138 y_1), ()) () /\ μ (wrZ (q138 y_1), ()) () < μ y_1 z_1) /\ ((q214 z y_1) = false -> (q34 <= y_1.1 /\ y_1.1 <= (↑q66 : Int)) /\ List.length z.1 = q66 /\
  lenB (List.take (q66 - Int.toNat y_1.1) (List.drop (q330 y_1) z.1)) <= q95 /\ (∀ (y : q5), (q96 y) -> y.1 = List.take (q66 - Int.toNat y_1.1) (List.drop (q330 y_1) z.1) -> y.1 = IntD x.1)
  /\ True))) /\ (decide (y_1.1 < q415) = false -> (q34 <= y_1.1 /\ y_1.1 <= (↑q66 : Int)) /\ List.length z.1 = q66 /\ lenB (List.take (q66 - Int.toNat y_1.1) (List.drop (q330 y_1) z.1)) <=
  q95 /\ (∀ (y : q5), (q96 y) -> y.1 = List.take (q66 - Int.toNat y_1.1) (List.drop (q330 y_1) z.1) -> y.1 = IntD x.1) /\ True))
theorem e79 : t79 = Con.vc c_num_Int GL (mkEnv ty [(123, conSem c_slices_Clone_byte_byte)] [] [] [0, 2, 3, 4, 5, 6, 7, 19, 20]) {} Tryz.f79.ntmps Tryz.f79.results.toList (bodyOf Tryz.f79) := by kernel_rfl
theorem k79 : t79 := by
  unfold t79
  delta q1 q30 q66 q61 q14 q15 q63 q34 q5 q96 q76 wrZ lnZ q138 q330 q218 q415 q221 q217 q359 q219 q215 q220 q216 q358 q214 q95 wiZ wyZ q334 q343 q375 q332 q435 q360 q434 q454 q456
  rintro ⟨x, u⟩ hx hp
  simp only at hx hp ⊢
  have hx3 : fit x 8 := fit8 hx.1
  refine ⟨by decide, fun y z => 0 ≤ y.1 ∧ y.1 ≤ 8 ∧ z.1.length = 8 ∧ ∀ i : Nat, (i : Int) < y.1 → z.1[i]? = (low x 8)[i]?, fun y _ => (8 - y.1).toNat, ⟨by trivial, by trivial, by omega, by omega, rfl, fun i h => by omega⟩, ?_⟩
  rintro ⟨i, u⟩ ⟨z, u'⟩ hw hw2 ⟨h1, h2, h3, h4⟩
  simp only at h1 h2 h3 h4 hw hw2 ⊢
  refine ⟨fun hc => ?_, fun hc => ?_⟩
  . have hc := of_decide_eq_true hc
    obtain ⟨n, rfl⟩ : ∃ n : Nat, i = n := ⟨i.toNat, by omega⟩
    have hwr : IntKind.wrap .i64 ((n : Int) + 1) = n + 1 := by rw [IntKind.wrap_i64]; omega
    rw [byte_i64 x n (by omega), hwr]
    refine ⟨by rw [IntKind.wrap_i64, IntKind.wrap_i64]; omega, by omega, by trivial, by trivial, ⟨by omega, by omega, by rw [List.length_set]; exact h3, fun j hj => ?_⟩, by omega⟩
    rw [Int.toNat_natCast, List.getElem?_set]
    split
    . rename_i e
      subst e
      rw [if_pos (by omega), low_at x n (by omega)]
    . exact h4 j (by omega)
  . have hc := of_decide_eq_false hc
    have hi : i = 8 := by omega
    have hz : z = low x 8 := List.ext_getElem? fun j => by
      by_cases hj : j < 8
      . exact h4 j (by omega)
      . rw [List.getElem?_eq_none (by omega), List.getElem?_eq_none (by rw [nlow_len]; omega)]
    subst hz
    refine ⟨fun y _ => 0 ≤ y.1 ∧ y.1 ≤ 7 ∧ fit x (8 - y.1.toNat), fun y _ => (8 - y.1).toNat, ⟨by trivial, by trivial, by trivial, by trivial, by trivial, by omega, by omega, hx3⟩, ?_⟩
    rintro ⟨j, u⟩ u' hw _ ⟨h5, h6, h7⟩
    simp only at h5 h6 h7 hw ⊢
    obtain ⟨n, rfl⟩ : ∃ n : Nat, j = n := ⟨j.toNat, by omega⟩
    rw [Int.toNat_natCast] at h7 ⊢
    have hwr : IntKind.wrap .i64 ((n : Int) + 1) = n + 1 := by rw [IntKind.wrap_i64]; omega
    have hlen : ((low x 8).drop n |>.take (8 - n)).length ≤ 1000000000 := by rw [List.length_take]; omega
    have hfin : n = 7 ∨ ¬ fit x (7 - n) → ∀ y : List Int × Unit, Kd.wf (Kd.sl (Kd.int .u8)) y.1 ∧ True → y.1 = ((low x 8).drop n).take (8 - n) → y.1 = IntD x :=
      fun h y _ e => by rw [e]; exact rest x n (by omega) h7 h
    refine ⟨fun hc => ?_, fun hc => ?_⟩
    . have hc := of_decide_eq_true hc
      have hst := fit_step x n (by omega) h7
      rw [hwr, show ((n : Int) + 1).toNat = n + 1 by omega]
      have hd : Kd.dft (Kd.int .u8) = (0 : Int) := rfl
      rw [hd]
      generalize ea : (low x 8).getD n 0 = a at hst ⊢
      generalize eb : (low x 8).getD (n + 1) 0 = b at hst ⊢
      have hnext : fit x (7 - n) → (0 ≤ (n : Int) + 1 ∧ (n : Int) + 1 ≤ 7 ∧ fit x (8 - ((n : Int) + 1).toNat)) := fun h => ⟨by omega, by omega, by rw [show 8 - ((n : Int) + 1).toNat = 7 - n by omega]; exact h⟩
      have hlow : ((low x 8).length : Int) = 8 := by rw [nlow_len]; rfl
      have hrange : (0 : Int) ≤ (n : Int) + 1 ∧ (n : Int) + 1 < ((8 : Nat) : Int) ∧ (n : Int) + 1 < ((low x 8).length : Int) := by rw [hlow]; omega
      refine ⟨by rw [hlow]; omega, fun _ => trivial, fun h => ⟨by simp [h], trivial⟩, fun h => ⟨by simp [h], hrange, trivial⟩, fun h => ⟨by simp [h], trivial⟩, fun h => ⟨by simp [h], trivial⟩, fun h => by simp [h], ?_, ?_⟩
      . refine fun hb => ⟨by trivial, by trivial, by trivial, by trivial, by trivial, ?_, by omega⟩
        have hb' : a = 0 ∧ b < 128 := by simpa using hb
        exact hnext (hst.1 (.inl hb'))
      . refine fun hb => ⟨by rw [hlow]; omega, fun _ => trivial, fun h => ⟨by simp [h], trivial⟩, fun h => ⟨by simp [h], hrange, trivial⟩, fun h => ⟨by simp [h], trivial⟩, fun h => ⟨by simp [h], trivial⟩, fun h => by simp [h], ?_, ?_⟩
        . refine fun hb3 => ⟨by trivial, by trivial, by trivial, by trivial, by trivial, ?_, by omega⟩
          have hb' : a = 255 ∧ 128 ≤ b := by simpa using hb3
          exact hnext (hst.1 (.inr hb'))
        . refine fun hb3 => ⟨by omega, nlow_len x 8, hlen, hfin (.inr fun hf => ?_), trivial⟩
          rcases hst.2 hf with h | h
          . simp [h.1, h.2] at hb
          . simp [h.1, h.2] at hb3
    . have hc := of_decide_eq_false hc
      exact ⟨by omega, nlow_len x 8, hlen, hfin (.inl (by omega)), trivial⟩
theorem h79 : c_num_Int.ok Tryz.prog GL 79 := con_ok (H := {}) (mkEnv_ok (gl := GL) (l := [(123, conSem c_slices_Clone_byte_byte)]) (q := []) (d := []) _ tyOk (by kernel_rfl) ⟨h123.call, trivial⟩ trivial trivial) (by kernel_rfl) (by kernel_rfl) (Eq.mp e79 k79)
def t126 : Prop :=
  ∀ (x : q1), (q224 x) -> True -> q34 <= q76 /\ (q34 <= Int.fdiv x.1 (q343 ^ q360) /\ Int.fdiv x.1 (q343 ^ q360) < (↑(256 : Nat) : Int)) /\ (q34 <= IntKind.wrap IntKind.u16 (q223 x) /\
  IntKind.wrap IntKind.u16 (q223 x) < (↑(256 : Nat) : Int)) /\ q34 <= q76 /\ IntKind.wrap IntKind.u16 (↑(BitVec.toNat (BitVec.ofInt (16 : Nat) (IntKind.wrap IntKind.u16 (List.getD q222
  (Int.toNat (q92 x)) q34)) ||| BitVec.ofInt (16 : Nat) (IntKind.wrap IntKind.u16 (IntKind.wrap IntKind.u16 (List.getD q222 (Int.toNat (IntKind.wrap IntKind.u16 (q223 x))) q34) * q67 ^
  q66)))) : Int) = (↑(prev (Int.toNat x.1 / (256 : Nat)) q66) : Int) + (256 : Int) * (↑(prev (Int.toNat x.1 % (256 : Nat)) q66) : Int)
theorem e126 : t126 = Con.vc c_math_bits_Reverse16 GL (mkEnv ty [] [] [] [0, 2]) {} Tryz.f126.ntmps Tryz.f126.results.toList (bodyOf Tryz.f126) := by kernel_rfl
theorem k126 : t126 := by
  unfold t126
  delta q1 q224 q34 q76 q343 q360 q223 q222 q92 q67 q66 q400 q401 q402
  rintro ⟨x, _⟩ hx hp
  obtain ⟨n, rfl, hn⟩ := u16_nat hx.1
  simp only [true_and, and_true, eq_self_iff_true, implies_true, reduceCtorEq, false_implies, true_implies, decide_eq_true_eq, decide_eq_false_iff_not, beq_self_eq_true, Bool.not_eq_true', ne_eq, Decidable.not_not, List.nil_append, List.length_singleton, List.length_cons, List.length_nil, Nat.zero_add, Nat.add_zero, Nat.mul_one, and_self, beq_iff_eq, Bool.not_true, Bool.not_false, Bool.not_eq_false', Bool.cond_false_right, Bool.and_eq_true, imp_self, Bool.not_eq_true, Bool.cond_true_left, Bool.or_eq_true, fdiv8, Go.Pl.u16_and n hn, Int.toNat_natCast]
  have tab : ∀ i : Fin 256, List.getD (bs { data := List.toArray (List.append (List.append [(0 : UInt8), (128 : UInt8), (64 : UInt8), (192 : UInt8), (32 : UInt8), (160 : UInt8), (96 : UInt8), (224 : UInt8), (16 : UInt8), (144 : UInt8), (80 : UInt8), (208 : UInt8), (48 : UInt8), (176 : UInt8), (112 : UInt8), (240 : UInt8), (8 : UInt8), (136 : UInt8), (72 : UInt8), (200 : UInt8), (40 : UInt8), (168 : UInt8), (104 : UInt8), (232 : UInt8), (24 : UInt8), (152 : UInt8), (88 : UInt8), (216 : UInt8), (56 : UInt8), (184 : UInt8), (120 : UInt8), (248 : UInt8), (4 : UInt8), (132 : UInt8), (68 : UInt8), (196 : UInt8), (36 : UInt8), (164 : UInt8), (100 : UInt8), (228 : UInt8), (20 : UInt8), (148 : UInt8), (84 : UInt8), (212 : UInt8), (52 : UInt8), (180 : UInt8), (116 : UInt8), (244 : UInt8), (12 : UInt8), (140 : UInt8), (76 : UInt8), (204 : UInt8), (44 : UInt8), (172 : UInt8), (108 : UInt8), (236 : UInt8), (28 : UInt8), (156 : UInt8), (92 : UInt8), (220 : UInt8), (60 : UInt8), (188 : UInt8), (124 : UInt8), (252 : UInt8)] [(2 : UInt8), (130 : UInt8), (66 : UInt8), (194 : UInt8), (34 : UInt8), (162 : UInt8), (98 : UInt8), (226 : UInt8), (18 : UInt8), (146 : UInt8), (82 : UInt8), (210 : UInt8), (50 : UInt8), (178 : UInt8), (114 : UInt8), (242 : UInt8), (10 : UInt8), (138 : UInt8), (74 : UInt8), (202 : UInt8), (42 : UInt8), (170 : UInt8), (106 : UInt8), (234 : UInt8), (26 : UInt8), (154 : UInt8), (90 : UInt8), (218 : UInt8), (58 : UInt8), (186 : UInt8), (122 : UInt8), (250 : UInt8), (6 : UInt8), (134 : UInt8), (70 : UInt8), (198 : UInt8), (38 : UInt8), (166 : UInt8), (102 : UInt8), (230 : UInt8), (22 : UInt8), (150 : UInt8), (86 : UInt8), (214 : UInt8), (54 : UInt8), (182 : UInt8), (118 : UInt8), (246 : UInt8), (14 : UInt8), (142 : UInt8), (78 : UInt8), (206 : UInt8), (46 : UInt8), (174 : UInt8), (110 : UInt8), (238 : UInt8), (30 : UInt8), (158 : UInt8), (94 : UInt8), (222 : UInt8), (62 : UInt8), (190 : UInt8), (126 : UInt8), (254 : UInt8)]) (List.append [(1 : UInt8), (129 : UInt8), (65 : UInt8), (193 : UInt8), (33 : UInt8), (161 : UInt8), (97 : UInt8), (225 : UInt8), (17 : UInt8), (145 : UInt8), (81 : UInt8), (209 : UInt8), (49 : UInt8), (177 : UInt8), (113 : UInt8), (241 : UInt8), (9 : UInt8), (137 : UInt8), (73 : UInt8), (201 : UInt8), (41 : UInt8), (169 : UInt8), (105 : UInt8), (233 : UInt8), (25 : UInt8), (153 : UInt8), (89 : UInt8), (217 : UInt8), (57 : UInt8), (185 : UInt8), (121 : UInt8), (249 : UInt8), (5 : UInt8), (133 : UInt8), (69 : UInt8), (197 : UInt8), (37 : UInt8), (165 : UInt8), (101 : UInt8), (229 : UInt8), (21 : UInt8), (149 : UInt8), (85 : UInt8), (213 : UInt8), (53 : UInt8), (181 : UInt8), (117 : UInt8), (245 : UInt8), (13 : UInt8), (141 : UInt8), (77 : UInt8), (205 : UInt8), (45 : UInt8), (173 : UInt8), (109 : UInt8), (237 : UInt8), (29 : UInt8), (157 : UInt8), (93 : UInt8), (221 : UInt8), (61 : UInt8), (189 : UInt8), (125 : UInt8), (253 : UInt8)] [(3 : UInt8), (131 : UInt8), (67 : UInt8), (195 : UInt8), (35 : UInt8), (163 : UInt8), (99 : UInt8), (227 : UInt8), (19 : UInt8), (147 : UInt8), (83 : UInt8), (211 : UInt8), (51 : UInt8), (179 : UInt8), (115 : UInt8), (243 : UInt8), (11 : UInt8), (139 : UInt8), (75 : UInt8), (203 : UInt8), (43 : UInt8), (171 : UInt8), (107 : UInt8), (235 : UInt8), (27 : UInt8), (155 : UInt8), (91 : UInt8), (219 : UInt8), (59 : UInt8), (187 : UInt8), (123 : UInt8), (251 : UInt8), (7 : UInt8), (135 : UInt8), (71 : UInt8), (199 : UInt8), (39 : UInt8), (167 : UInt8), (103 : UInt8), (231 : UInt8), (23 : UInt8), (151 : UInt8), (87 : UInt8), (215 : UInt8), (55 : UInt8), (183 : UInt8), (119 : UInt8), (247 : UInt8), (15 : UInt8), (143 : UInt8), (79 : UInt8), (207 : UInt8), (47 : UInt8), (175 : UInt8), (111 : UInt8), (239 : UInt8), (31 : UInt8), (159 : UInt8), (95 : UInt8), (223 : UInt8), (63 : UInt8), (191 : UInt8), (127 : UInt8), (255 : UInt8)])) }) i.val (0 : Int) = (prev i.val 8 : Int) := by decide +kernel
  rw [tab ⟨n / 256, by omega⟩, tab ⟨n % 256, by omega⟩]
  exact ⟨by decide, by omega, by omega, by decide, Go.Pl.u16_or _ _ (prev_lt _ (by omega)) (prev_lt _ (by omega))⟩
theorem h126 : c_math_bits_Reverse16.ok Tryz.prog GL 126 := con_ok (H := {}) (mkEnv_ok (gl := GL) (l := []) (q := []) (d := []) _ tyOk (by kernel_rfl) trivial trivial trivial) (by kernel_rfl) (by kernel_rfl) (Eq.mp e126 k126)
def t127 : Prop :=
  ∀ (x : q1), (q224 x) -> True -> (decide ((256 : Int) <= x.1) = true -> q34 <= q76 /\ (q34 <= IntKind.wrap IntKind.u8 (q92 x) /\ IntKind.wrap IntKind.u8 (q92 x) < (↑(256 : Nat) : Int)) /\
  wrZ (q76 + wrZ (List.getD q225 (Int.toNat (IntKind.wrap IntKind.u8 (q92 x))) q34)) = if x.1 < (256 : Int) then (↑(lastb (q330 x) q66) : Int) else q76 + (↑(lastb (Int.toNat x.1 / (256 :
  Nat)) q360) : Int)) /\ (decide ((256 : Int) <= x.1) = false -> (q34 <= IntKind.wrap IntKind.u8 x.1 /\ IntKind.wrap IntKind.u8 x.1 < (↑(256 : Nat) : Int)) /\ wrZ (q34 + wrZ (List.getD q225
  (Int.toNat (IntKind.wrap IntKind.u8 x.1)) q34)) = if x.1 < (256 : Int) then (↑(lastb (q330 x) q66) : Int) else q76 + (↑(lastb (Int.toNat x.1 / (256 : Nat)) q360) : Int))
theorem e127 : t127 = Con.vc c_math_bits_Len16 GL (mkEnv ty [] [] [] [0, 2, 4]) {} Tryz.f127.ntmps Tryz.f127.results.toList (bodyOf Tryz.f127) := by kernel_rfl
theorem k127 : t127 := by
  unfold t127
  delta q1 q224 q34 q76 q92 wrZ q225 q330 q66 q360 q343 q401 q402 q400
  rintro ⟨x, _⟩ hx hp
  obtain ⟨n, rfl, hn⟩ := u16_nat hx.1
  simp only [true_and, and_true, eq_self_iff_true, implies_true, reduceCtorEq, false_implies, true_implies, decide_eq_true_eq, decide_eq_false_iff_not, beq_self_eq_true, Bool.not_eq_true', ne_eq, Decidable.not_not, List.nil_append, List.length_singleton, List.length_cons, List.length_nil, Nat.zero_add, Nat.add_zero, Nat.mul_one, and_self, beq_iff_eq, Bool.not_true, Bool.not_false, Bool.not_eq_false', Bool.cond_false_right, Bool.and_eq_true, imp_self, Bool.not_eq_true, Bool.cond_true_left, Bool.or_eq_true, fdiv8, Int.toNat_natCast]
  have tab : ∀ i : Fin 256, List.getD (bs { data := List.toArray (List.append (List.append [(0 : UInt8), (1 : UInt8), (2 : UInt8), (2 : UInt8), (3 : UInt8), (3 : UInt8), (3 : UInt8), (3 : UInt8), (4 : UInt8), (4 : UInt8), (4 : UInt8), (4 : UInt8), (4 : UInt8), (4 : UInt8), (4 : UInt8), (4 : UInt8), (5 : UInt8), (5 : UInt8), (5 : UInt8), (5 : UInt8), (5 : UInt8), (5 : UInt8), (5 : UInt8), (5 : UInt8), (5 : UInt8), (5 : UInt8), (5 : UInt8), (5 : UInt8), (5 : UInt8), (5 : UInt8), (5 : UInt8), (5 : UInt8), (6 : UInt8), (6 : UInt8), (6 : UInt8), (6 : UInt8), (6 : UInt8), (6 : UInt8), (6 : UInt8), (6 : UInt8), (6 : UInt8), (6 : UInt8), (6 : UInt8), (6 : UInt8), (6 : UInt8), (6 : UInt8), (6 : UInt8), (6 : UInt8), (6 : UInt8), (6 : UInt8), (6 : UInt8), (6 : UInt8), (6 : UInt8), (6 : UInt8), (6 : UInt8), (6 : UInt8), (6 : UInt8), (6 : UInt8), (6 : UInt8), (6 : UInt8), (6 : UInt8), (6 : UInt8), (6 : UInt8), (6 : UInt8)] [(7 : UInt8), (7 : UInt8), (7 : UInt8), (7 : UInt8), (7 : UInt8), (7 : UInt8), (7 : UInt8), (7 : UInt8), (7 : UInt8), (7 : UInt8), (7 : UInt8), (7 : UInt8), (7 : UInt8), (7 : UInt8), (7 : UInt8), (7 : UInt8), (7 : UInt8), (7 : UInt8), (7 : UInt8), (7 : UInt8), (7 : UInt8), (7 : UInt8), (7 : UInt8), (7 : UInt8), (7 : UInt8), (7 : UInt8), (7 : UInt8), (7 : UInt8), (7 : UInt8), (7 : UInt8), (7 : UInt8), (7 : UInt8), (7 : UInt8), (7 : UInt8), (7 : UInt8), (7 : UInt8), (7 : UInt8), (7 : UInt8), (7 : UInt8), (7 : UInt8), (7 : UInt8), (7 : UInt8), (7 : UInt8), (7 : UInt8), (7 : UInt8), (7 : UInt8), (7 : UInt8), (7 : UInt8), (7 : UInt8), (7 : UInt8), (7 : UInt8), (7 : UInt8), (7 : UInt8), (7 : UInt8), (7 : UInt8), (7 : UInt8), (7 : UInt8), (7 : UInt8), (7 : UInt8), (7 : UInt8), (7 : UInt8), (7 : UInt8), (7 : UInt8), (7 : UInt8)]) (List.append [(8 : UInt8), (8 : UInt8), (8 : UInt8), (8 : UInt8), (8 : UInt8), (8 : UInt8), (8 : UInt8), (8 : UInt8), (8 : UInt8), (8 : UInt8), (8 : UInt8), (8 : UInt8), (8 : UInt8), (8 : UInt8), (8 : UInt8), (8 : UInt8), (8 : UInt8), (8 : UInt8), (8 : UInt8), (8 : UInt8), (8 : UInt8), (8 : UInt8), (8 : UInt8), (8 : UInt8), (8 : UInt8), (8 : UInt8), (8 : UInt8), (8 : UInt8), (8 : UInt8), (8 : UInt8), (8 : UInt8), (8 : UInt8), (8 : UInt8), (8 : UInt8), (8 : UInt8), (8 : UInt8), (8 : UInt8), (8 : UInt8), (8 : UInt8), (8 : UInt8), (8 : UInt8), (8 : UInt8), (8 : UInt8), (8 : UInt8), (8 : UInt8), (8 : UInt8), (8 : UInt8), (8 : UInt8), (8 : UInt8), (8 : UInt8), (8 : UInt8), (8 : UInt8), (8 : UInt8), (8 : UInt8), (8 : UInt8), (8 : UInt8), (8 : UInt8), (8 : UInt8), (8 : UInt8), (8 : UInt8), (8 : UInt8), (8 : UInt8), (8 : UInt8), (8 : UInt8)] [(8 : UInt8), (8 : UInt8), (8 : UInt8), (8 : UInt8), (8 : UInt8), (8 : UInt8), (8 : UInt8), (8 : UInt8), (8 : UInt8), (8 : UInt8), (8 : UInt8), (8 : UInt8), (8 : UInt8), (8 : UInt8), (8 : UInt8), (8 : UInt8), (8 : UInt8), (8 : UInt8), (8 : UInt8), (8 : UInt8), (8 : UInt8), (8 : UInt8), (8 : UInt8), (8 : UInt8), (8 : UInt8), (8 : UInt8), (8 : UInt8), (8 : UInt8), (8 : UInt8), (8 : UInt8), (8 : UInt8), (8 : UInt8), (8 : UInt8), (8 : UInt8), (8 : UInt8), (8 : UInt8), (8 : UInt8), (8 : UInt8), (8 : UInt8), (8 : UInt8), (8 : UInt8), (8 : UInt8), (8 : UInt8), (8 : UInt8), (8 : UInt8), (8 : UInt8), (8 : UInt8), (8 : UInt8), (8 : UInt8), (8 : UInt8), (8 : UInt8), (8 : UInt8), (8 : UInt8), (8 : UInt8), (8 : UInt8), (8 : UInt8), (8 : UInt8), (8 : UInt8), (8 : UInt8), (8 : UInt8), (8 : UInt8), (8 : UInt8), (8 : UInt8), (8 : UInt8)])) }) i.val (0 : Int) = (lastb i.val 8 : Int) := by decide +kernel
  have hl : ∀ b : Nat, lastb b 8 ≤ 8 := fun b => lastb_le b 8
  refine ⟨fun h => ?_, fun h => ?_⟩
  . have e : IntKind.wrap .u8 ((n / 256 : Nat) : Int) = ((n / 256 : Nat) : Int) := by simp [IntKind.wrap, IntKind.signed, IntKind.bits]; omega
    rw [e, Int.toNat_natCast, tab ⟨n / 256, by omega⟩, if_neg (by omega)]
    have := hl (n / 256)
    simp only
    rw [wrapk (lastb (n / 256) 8 : Int) (by omega) (by omega), wrapk _ (by omega) (by omega)]
    exact ⟨by decide, by omega, rfl⟩
  . have e : IntKind.wrap .u8 (n : Int) = (n : Int) := by simp [IntKind.wrap, IntKind.signed, IntKind.bits]; omega
    rw [e, Int.toNat_natCast, tab ⟨n, by omega⟩, if_pos (by omega)]
    have := hl n
    simp only
    rw [wrapk (lastb n 8 : Int) (by omega) (by omega), wrapk _ (by omega) (by omega)]
    exact ⟨by omega, by omega⟩
theorem h127 : c_math_bits_Len16.ok Tryz.prog GL 127 := con_ok (H := {}) (mkEnv_ok (gl := GL) (l := []) (q := []) (d := []) _ tyOk (by kernel_rfl) trivial trivial trivial) (by kernel_rfl) (by kernel_rfl) (Eq.mp e127 k127)
def t84 : Prop :=
  ∀ (x : q1), (q224 x) -> True -> True /\ (∀ (y : q1), (q224 y) -> y.1 = (↑(prev (Int.toNat x.1 / (256 : Nat)) q66) : Int) + (256 : Int) * (↑(prev (Int.toNat x.1 % (256 : Nat)) q66) : Int) ->
  (decide (x.1 = q34) = true -> [q34] = FlagsD (q330 x)) /\ (decide (x.1 = q34) = false -> (decide (x.1 < (256 : Int)) = true -> True /\ (∀ (y_1 : q1), (q30 y_1) -> (q226 y_1 x) -> q34 <= q76
  /\ [IntKind.wrap IntKind.u8 (wrZ (q76 - y_1.1)), IntKind.wrap IntKind.u8 (q92 y)] = FlagsD (q330 x)) /\ True) /\ (decide (x.1 < (256 : Int)) = false -> True /\ (∀ (y_1 : q1), (q30 y_1) ->
  (q226 y_1 x) -> q34 <= q76 /\ [IntKind.wrap IntKind.u8 (wrZ ((16 : Int) - y_1.1)), IntKind.wrap IntKind.u8 (q92 y), IntKind.wrap IntKind.u8 y.1] = FlagsD (q330 x)) /\ True))) /\ True
theorem e84 : t84 = Con.vc c_num_Flags GL (mkEnv ty [(126, conSem c_math_bits_Reverse16), (127, conSem c_math_bits_Len16)] [] [] [0, 2, 3, 6, 10]) {} Tryz.f84.ntmps Tryz.f84.results.toList (bodyOf Tryz.f84) := by kernel_rfl
theorem k84 : t84 := by
  unfold t84
  delta q1 q224 q66 q34 q330 q30 q226 q76 wrZ q92 wiZ q360 q343
  rintro ⟨x, _⟩ hx hp
  obtain ⟨n, rfl, hn⟩ := u16_nat hx.1
  simp only [true_and, and_true, eq_self_iff_true, implies_true, reduceCtorEq, false_implies, true_implies, decide_eq_true_eq, decide_eq_false_iff_not, beq_self_eq_true, Bool.not_eq_true', ne_eq, Decidable.not_not, List.nil_append, List.length_singleton, List.length_cons, List.length_nil, Nat.zero_add, Nat.add_zero, Nat.mul_one, and_self, beq_iff_eq, Bool.not_true, Bool.not_false, Bool.not_eq_false', Bool.cond_false_right, Bool.and_eq_true, imp_self, Bool.not_eq_true, Bool.cond_true_left, Bool.or_eq_true, Int.toNat_natCast]
  rintro ⟨r, _⟩ hw er
  simp only at er ⊢
  have p1 := prev_lt (n / 256) (by omega)
  have p2 := prev_lt (n % 256) (by omega)
  have er' : r = ((prev (n / 256) 8 + 256 * prev (n % 256) 8 : Nat) : Int) := by rw [er]; omega
  have e8 : IntKind.wrap .u8 (r.fdiv (2 ^ 8)) = (prev (n % 256) 8 : Int) := by
    rw [er', fdiv8]; simp [IntKind.wrap, IntKind.signed, IntKind.bits]; omega
  have e9 : IntKind.wrap .u8 r = (prev (n / 256) 8 : Int) := by
    rw [er']; simp [IntKind.wrap, IntKind.signed, IntKind.bits]; omega
  refine ⟨fun h => ?_, fun h => ⟨fun h1 => ?_, fun h1 => ?_⟩⟩
  . have : n = 0 := by omega
    subst this; rfl
  . rintro ⟨l, _⟩ hwl el
    simp only at el ⊢
    rw [if_pos h1] at el
    have hl := lastb_le n 8
    have e2 : IntKind.wrap .u8 (IntKind.wrap .i64 (8 - l)) = 8 - (lastb n 8 : Int) := by
      rw [el, wrapk _ (by omega) (by omega)]; simp [IntKind.wrap, IntKind.signed, IntKind.bits]; omega
    refine ⟨by decide, ?_⟩
    rw [e2, e8, FlagsD, if_neg (by omega), if_pos (by omega), Nat.mod_eq_of_lt (show n < 256 by omega)]
  . rintro ⟨l, _⟩ hwl el
    simp only at el ⊢
    rw [if_neg h1] at el
    have hl := lastb_le (n / 256) 8
    have e2 : IntKind.wrap .u8 (IntKind.wrap .i64 (16 - l)) = 8 - (lastb (n / 256) 8 : Int) := by
      rw [el, wrapk _ (by omega) (by omega)]; simp [IntKind.wrap, IntKind.signed, IntKind.bits]; omega
    refine ⟨by decide, ?_⟩
    rw [e2, e8, e9, FlagsD, if_neg (by omega), if_neg (by omega)]
theorem h84 : c_num_Flags.ok Tryz.prog GL 84 := con_ok (H := {}) (mkEnv_ok (gl := GL) (l := [(126, conSem c_math_bits_Reverse16), (127, conSem c_math_bits_Len16)]) (q := []) (d := []) _ tyOk (by kernel_rfl) ⟨h126.call, h127.call, trivial⟩ trivial trivial) (by kernel_rfl) (by kernel_rfl) (Eq.mp e84 k84)
def t122 : Prop :=
  ∀ (x : q5), (q96 x) -> True -> (decide (q132 x) = true -> decide ((lnZ x.1) = q62) = ShortD x.1) /\ (decide (q132 x) = false -> (q58 x) /\ (decide (q237 x) = true -> True) /\ (decide (q237
  x) = true -> (q235 x) = true /\ (q59 x) /\ True) /\ (q232 x) /\ (q232 x) /\ (decide (q237 x) = true -> (q235 x) = true) /\ (q231 x) /\ ((q234 x) = false -> (q233 x) = true /\ (q58 x) /\
  True) /\ (q229 x) /\ (q229 x) /\ (q231 x) /\ ((q230 x) = true -> decide (q236 x) = true -> True) /\ ((q230 x) = true -> decide (q236 x) = true -> (q228 x) = true /\ (q59 x) /\ True) /\
  (q227 x) /\ (q227 x) /\ ((q234 x) = false -> (q230 x) = true /\ (decide (q236 x) = true -> (q228 x) = true) /\ True) /\ ((q234 x) = false -> (q233 x) = true) /\ (!bif bif decide (q237 x)
  then decide (q420 x) else false then true else bif decide (q236 x) then decide (q75 <= List.getD x.1 q36 q143) else false) = ShortD x.1)
theorem e122 : t122 = Con.vc c_num_shortest GL (mkEnv ty [] [] [] [0, 2, 5]) {} Tryz.f122.ntmps Tryz.f122.results.toList (bodyOf Tryz.f122) := by kernel_rfl
theorem k122 : t122 := by
  unfold t122
  delta q5 q96 q132 lnZ q62 q58 q237 q235 q59 q232 q231 q234 q233 q229 q230 q236 q228 q227 q420 q75 q36 q143 wyZ q343 q332 q347 q375 q405 q334 q403 q404 q456 q371 q454 q430 q440 q421
  rintro ⟨l, _⟩ hx hp
  try dsimp +instances only [dft_int, dft_sl, dft_str]
  simp only [true_and, and_true, eq_self_iff_true, implies_true, reduceCtorEq, false_implies, true_implies, decide_eq_true_eq, decide_eq_false_iff_not, beq_self_eq_true, Bool.not_eq_true', ne_eq, Decidable.not_not, List.nil_append, List.length_singleton, List.length_cons, List.length_nil, Nat.zero_add, Nat.add_zero, Nat.mul_one, and_self, beq_iff_eq, Bool.not_true, Bool.not_false, Bool.not_eq_false', Bool.cond_false_right, Bool.and_eq_true, imp_self, Bool.not_eq_true, Bool.cond_true_left, Bool.or_eq_true]
  rcases l with _ | ⟨a, _ | ⟨b, r⟩⟩
  . exact ⟨fun _ => rfl, fun h => absurd (by simp) h⟩
  . exact ⟨fun _ => rfl, fun h => absurd (by simp) h⟩
  . simp only [List.getD_cons_zero, List.getD_cons_succ]
    have hlen : (2 : Int) ≤ ((a :: b :: r).length : Int) := by simp; omega
    exact ⟨fun h => by omega, fun _ => ⟨by omega, fun h => ⟨h, by omega, by omega⟩, fun h => ⟨h, by omega, by omega⟩, fun h h2 => ⟨⟨h, h2⟩, by omega, by omega⟩, fun h h2 => ⟨h, h2⟩, fun h h2 => ⟨h, h2⟩, fun h => ⟨h, fun h2 => ⟨h, h2⟩⟩, rfl⟩⟩
theorem h122 : c_num_shortest.ok Tryz.prog GL 122 := con_ok (H := {}) (mkEnv_ok (gl := GL) (l := []) (q := []) (d := []) _ tyOk (by kernel_rfl) trivial trivial trivial) (by kernel_rfl) (by kernel_rfl) (Eq.mp e122 k122)
def t78 : Prop :=
  ∀ (x : q5), (q96 x) -> True -> True /\ (∀ (y : q4), (q41 y) -> y.1 = ShortD x.1 -> ((!y.1) = true -> (q34, (20 : Int)) = ToIntD x.1) /\ ((!y.1) = false -> (decide (q76 < (lnZ x.1)) = true
  -> (q34, (21 : Int)) = ToIntD x.1) /\ (decide (q76 < (lnZ x.1)) = false -> (q58 x) /\ (q239 x) /\ ∃ (I : q12), ∃ (μ : q13), ((q240 x) = (q240 x) /\ List.drop q36 x.1 = List.drop q36 x.1 /\
  Value.bool false = Value.bool false /\ Value.bool false = Value.bool false /\ q34 = q34 /\ q34 = q34 /\ x.1 = x.1 /\ I (q34, wrZ (IntKind.wrap IntKind.i8 (q119 x)), ()) ()) /\ ∀ (y : q6) (z
  : Unit), (q101 y) -> True -> I y z -> (decide (y.1 < (q240 x)) = true -> (q34 <= y.1 /\ y.1 < (q240 x)) /\ q34 <= q76 /\ (q240 x) = (q240 x) /\ List.drop q36 x.1 = List.drop q36 x.1 /\
  Value.bool false = Value.bool false /\ Value.bool false = Value.bool false /\ q34 = q34 /\ q34 = q34 /\ x.1 = x.1 /\ I (wrZ (y.1 + q334), wrZ (q238 y x), ()) () /\ μ (wrZ (y.1 + q334), wrZ
  (q238 y x), ()) () < μ y z) /\ (decide (y.1 < (q240 x)) = false -> (y.2.1, q34) = ToIntD x.1)))) /\ True
theorem e78 : t78 = Con.vc c_num_ToInt GL (mkEnv ty [(122, conSem c_num_shortest)] [] [] [0, 2, 3, 4, 6, 7, 11, 21, 22, 23, 24]) {} Tryz.f78.ntmps Tryz.f78.results.toList (bodyOf Tryz.f78) := by kernel_rfl
theorem k78 : t78 := by
  unfold t78
  delta q5 q96 q4 q41 q34 q76 lnZ q58 q239 q12 q13 q240 q36 wrZ q119 q6 q101 q334 q238 wyZ wbZ q332 q416 q347 q375 wiZ q343 q360 q454
  rintro ⟨l, _⟩ hx hp
  try dsimp +instances only [dft_int, dft_sl, dft_str]
  simp only [true_and, and_true, eq_self_iff_true, implies_true, reduceCtorEq, false_implies, true_implies, decide_eq_true_eq, decide_eq_false_iff_not, beq_self_eq_true, Bool.not_eq_true', ne_eq, Decidable.not_not, List.nil_append, List.length_singleton, List.length_cons, List.length_nil, Nat.zero_add, Nat.add_zero, Nat.mul_one, and_self, beq_iff_eq, Bool.not_true, Bool.not_false, Bool.not_eq_false', Bool.cond_false_right, Bool.and_eq_true, imp_self, Bool.not_eq_true, Bool.cond_true_left, Bool.or_eq_true]
  rintro ⟨s, _⟩ _ es
  simp only at es ⊢
  refine ⟨fun h => ?_, fun h => ⟨fun h8 => ?_, fun h8 => ?_⟩⟩
  . rw [ToIntD, if_pos (by rw [← es]; exact h)]
  . rw [ToIntD, if_neg (by rw [← es, h]; decide), if_pos (by omega)]
  . have hv : ToIntD l = (nvalD l, 0) := by rw [ToIntD, if_neg (by rw [← es, h]; decide), if_neg (by omega)]
    rw [hv]
    rcases l with _ | ⟨a, r⟩
    . rw [h] at es; cases es
    . have hb := head_bnd hx.1
      have hr : r.length ≤ 7 := by simp at h8; omega
      have hlen : (1 : Int) ≤ ((a :: r).length : Int) := by simp; omega
      simp only [List.getD_cons_zero, List.drop_succ_cons, List.drop_zero]
      rw [val_cons r hb, sx_eq hb]
      refine ⟨⟨by omega, by omega⟩, ⟨by omega, by omega⟩, fun y _ => 0 ≤ y.1 ∧ y.1 ≤ r.length ∧ y.2.1 = foldB (sx a) (r.take y.1.toNat), fun y _ => r.length - y.1.toNat, ⟨by simp, by simp, by simp [foldB]⟩, ?_⟩
      rintro ⟨i, v, _⟩ z hy ⟨h0, h1, h2⟩
      simp only at h0 h1 h2 ⊢
      refine ⟨fun hlt => ⟨⟨h0, hlt⟩, by decide, ?_⟩, fun hge => ?_⟩
      . have hw : IntKind.wrap .i64 (i + 1) = i + 1 := wrapk _ (by omega) (by omega)
        have hor := or_byte v (r.getD i.toNat 0) (get_bnd (tail_wf hx.1) _) (by rw [h2]; exact fold_fit6 hx.1 _ (by omega))
        rw [hw, hor]
        refine ⟨⟨by omega, by omega, ?_⟩, by omega⟩
        rw [show (i + 1).toNat = i.toNat + 1 by omega, ntake_snoc r _ (by omega), fold_snoc, h2]
      . rw [h2, List.take_of_length_le (by omega)]
theorem h78 : c_num_ToInt.ok Tryz.prog GL 78 := con_ok (H := {}) (mkEnv_ok (gl := GL) (l := [(122, conSem c_num_shortest)]) (q := []) (d := []) _ tyOk (by kernel_rfl) ⟨h122.call, trivial⟩ trivial trivial) (by kernel_rfl) (by kernel_rfl) (Eq.mp e78 k78)
def t120 : Prop :=
  ∀ (x : q5), (q96 x) -> True -> (decide (q246 x) = false -> True) /\ (decide (q246 x) = false -> (decide (q246 x) == false) = true /\ (q58 x) /\ True) /\ (decide (q246 x) = false -> (decide
  (q246 x) == false) = true /\ True) /\ (decide (q246 x) = false -> (decide (q246 x) == false) = true /\ True) /\ (decide (q246 x) = false -> True) /\ ((q244 x) = true -> decide (q245 x) =
  true -> True) /\ ((q244 x) = true -> decide (q245 x) = true -> (q243 x) = true /\ (q58 x) /\ True) /\ (q241 x) /\ (q241 x) /\ (decide (q246 x) = false -> (q244 x) = true /\ (decide (q245 x)
  = true -> (q243 x) = true) /\ True) /\ (decide (q246 x) = false -> (decide (q246 x) == false) = true) /\ ((q242 x) = true -> (false, (20 : Int)) = ToBoolD x.1) /\ ((q242 x) = false -> (q58
  x) /\ (decide (q236 x), q34) = ToBoolD x.1)
theorem e120 : t120 = Con.vc c_num_ToBool GL (mkEnv ty [] [] [] [0, 2, 3, 18]) {} Tryz.f120.ntmps Tryz.f120.results.toList (bodyOf Tryz.f120) := by kernel_rfl
theorem k120 : t120 := by
  unfold t120
  delta q5 q96 q246 q58 q244 q245 q243 q241 q242 q236 q34 wyZ lnZ q334 q332 q347 q375 q406 q454 q430 q440 q421
  rintro ⟨l, _⟩ hx hp
  try dsimp +instances only [dft_int, dft_sl, dft_str]
  simp only [true_and, and_true, eq_self_iff_true, implies_true, reduceCtorEq, false_implies, true_implies, decide_eq_true_eq, decide_eq_false_iff_not, beq_self_eq_true, Bool.not_eq_true', ne_eq, Decidable.not_not, List.nil_append, List.length_singleton, List.length_cons, List.length_nil, Nat.zero_add, Nat.add_zero, Nat.mul_one, and_self, beq_iff_eq, Bool.not_true, Bool.not_false, Bool.not_eq_false', Bool.cond_false_right, Bool.and_eq_true, imp_self, Bool.not_eq_true, Bool.cond_true_left, Bool.or_eq_true]
  rcases l with _ | ⟨a, _ | ⟨b, r⟩⟩
  . simp [ToBoolD]
  . by_cases ha : a = 255
    . subst ha; simp [ToBoolD]
    . by_cases h0 : a = 0
      . subst h0; simp [ToBoolD]
      . simp [ToBoolD, ha, h0]
  . simp [ToBoolD]
    omega
theorem h120 : c_num_ToBool.ok Tryz.prog GL 120 := con_ok (H := {}) (mkEnv_ok (gl := GL) (l := []) (q := []) (d := []) _ tyOk (by kernel_rfl) trivial trivial trivial) (by kernel_rfl) (by kernel_rfl) (Eq.mp e120 k120)
def t159 : Prop :=
  ∀ (x : q0), (q135 x) -> True -> (decide (x.2.1 < q34) = false -> True) /\ (decide (x.2.1 < q34) = false -> (decide (x.2.1 < q34) == false) = true /\ True) /\ (decide (x.2.1 < q34) = false
  -> (decide (x.2.1 < q34) == false) = true) /\ ((bif decide (x.2.1 < q34) then true else decide (q415 < x.2.1)) = true -> false = FitsD x.1 x.2.1) /\ ((bif decide (x.2.1 < q34) then true
  else decide (q415 < x.2.1)) = false -> (decide ((lnZ x.1) = q34) = true -> decide (q247 x) = FitsD x.1 x.2.1) /\ (decide ((lnZ x.1) = q34) = false -> (q34 <= wrZ ((lnZ x.1) - q62) /\ wrZ
  ((lnZ x.1) - q62) < (lnZ x.1)) /\ q34 <= x.2.1 /\ decide (IntKind.wrap IntKind.u8 (↑(BitVec.toNat (BitVec.ofInt q66 (List.getD x.1 (Int.toNat (wrZ ((lnZ x.1) - q62))) q143) &&& BitVec.ofInt
  q66 (IntKind.wrap IntKind.u8 (IntKind.wrap IntKind.u8 (q62 * q67 ^ min (Int.toNat x.2.1) q66) - q62)))) : Int) = q34) = FitsD x.1 x.2.1))
theorem e159 : t159 = Con.vc c_num_fits GL (mkEnv ty [] [] [] [0, 1, 4, 5, 12]) {} Tryz.f159.ntmps Tryz.f159.results.toList (bodyOf Tryz.f159) := by kernel_rfl
theorem k159 : t159 := by
  unfold t159
  delta q0 q135 q34 q415 lnZ q247 wrZ q62 q66 q143 q67 wyZ wiZ q332 q371
  rintro ⟨l, n, _⟩ hx hp
  have hl : l.length ≤ 9223372036854775807 := hx.1.1
  simp only [true_and, and_true, eq_self_iff_true, implies_true, reduceCtorEq, false_implies, true_implies, decide_eq_true_eq, decide_eq_false_iff_not, beq_self_eq_true, Bool.not_eq_true', ne_eq, Decidable.not_not, List.nil_append, List.length_singleton, List.length_cons, List.length_nil, Nat.zero_add, Nat.add_zero, Nat.mul_one, and_self, beq_iff_eq, Bool.not_true, Bool.not_false, Bool.not_eq_false', Bool.cond_false_right, Bool.and_eq_true, imp_self, Bool.not_eq_true, Bool.cond_true_left, Bool.or_eq_true]
  refine ⟨fun h => by simp [FitsD, h], fun h => ?_⟩
  have h' : ¬ (n < 0 ∨ 7 < n) := by simpa using h
  refine ⟨fun h0 => ?_, fun h0 => ?_⟩
  . have : l = [] := List.eq_nil_of_length_eq_zero (by omega)
    subst this
    rw [FitsD, if_neg h', if_pos rfl]
  . have hne : l ≠ [] := fun e => h0 (by rw [e]; rfl)
    have hw : IntKind.wrap .i64 ((l.length : Int) - 1) = l.length - 1 := by rw [IntKind.wrap_i64]; omega
    have hd : Kd.dft (Kd.int .u8) = (0 : Int) := rfl
    have hb : 0 ≤ l.getD (l.length - 1) 0 ∧ l.getD (l.length - 1) 0 ≤ 255 := byte_get hx.1 (l.length - 1)
    rw [hw, hd, show ((l.length : Int) - 1).toNat = l.length - 1 by omega]
    refine ⟨by omega, by omega, ?_⟩
    rw [and_low _ n.toNat hb.1 hb.2 (by omega), nlast_get l hne]
    rw [FitsD, if_neg h', if_neg hne]
theorem h159 : c_num_fits.ok Tryz.prog GL 159 := con_ok (H := {}) (mkEnv_ok (gl := GL) (l := []) (q := []) (d := []) _ tyOk (by kernel_rfl) trivial trivial trivial) (by kernel_rfl) (by kernel_rfl) (Eq.mp e159 k159)
def t125 : Prop :=
  ∀ (x : q5), (q96 x) -> lenB x.1 <= q252 -> (decide (q120 x) = false -> True) /\ (decide (q120 x) = false -> (q251 x) = true /\ (q239 x) /\ True) /\ (decide (q120 x) = false -> True) /\
  (decide (q120 x) = false -> (q251 x) = true /\ (q58 x) /\ True) /\ (q250 x) /\ (q250 x) /\ (decide (q120 x) = false -> (q251 x) = true /\ (q251 x) = true /\ True /\ (∀ (y : q4), (q41 y) ->
  y.1 = FitsD (List.drop q416 x.1) (wrZ (q119 x)) -> ((!y.1) = true -> ([], q34, (20 : Int)) = ToBitsD x.1) /\ ((!y.1) = false -> (q58 x) /\ ((q239 x) /\ (lenB (List.drop q416 x.1) <= q95 /\
  (∀ (y : q5), (q96 y) -> y.1 = List.drop q36 x.1 -> ((y.1, wrZ (q119 x), q34) = ToBitsD x.1 /\ True) /\ True) /\ True) /\ ((q249 x) /\ (q248 x) /\ True) /\ True) /\ (((q239 x) /\ (q249 x) /\
  (q248 x) /\ True) /\ (((q239 x) /\ (q361 x) /\ True) /\ True) /\ True) /\ True)) /\ True) /\ (decide (q120 x) = !false -> ([], q34, (20 : Int)) = ToBitsD x.1)
theorem e125 : t125 = Con.vc c_num_ToBits GL (mkEnv ty [(159, conSem c_num_fits), (123, conSem c_slices_Clone_byte_byte)] [] [] [0, 2, 3, 4, 17]) {} Tryz.f125.ntmps Tryz.f125.results.toList (bodyOf Tryz.f125) := by kernel_rfl
theorem k125 : t125 := by
  unfold t125
  delta q5 q96 q252 q120 q251 q239 q58 q250 q4 q41 q416 wrZ q119 q34 q95 q36 q249 q248 q361 wyZ lnZ q332 q334 wbZ q347 q375 q430 q440 q421 q454
  rintro ⟨l, _⟩ hx hp
  have hp : l.length ≤ 2000000 := hp
  try dsimp +instances only [dft_int, dft_sl, dft_str]
  simp only [true_and, and_true, eq_self_iff_true, implies_true, reduceCtorEq, false_implies, true_implies, decide_eq_true_eq, decide_eq_false_iff_not, beq_self_eq_true, Bool.not_eq_true', ne_eq, Decidable.not_not, List.nil_append, List.length_singleton, List.length_cons, List.length_nil, Nat.zero_add, Nat.add_zero, Nat.mul_one, and_self, beq_iff_eq, Bool.not_true, Bool.not_false, Bool.not_eq_false', Bool.cond_false_right, Bool.and_eq_true, imp_self, Bool.not_eq_true, Bool.cond_true_left, Bool.or_eq_true]
  rcases l with _ | ⟨a, r⟩
  . simp [ToBitsD]
  . have hb := head_bnd hx.1
    have hw : IntKind.wrap .i64 a = a := wrapk a (by omega) (by omega)
    have hne : ¬ ((a :: r).length : Int) = 0 := by simp; omega
    have hr : r.length ≤ 2000000 := by simp at hp; omega
    have b0 : (0 : Int) ≤ 0 ∧ 0 < ((a :: r).length : Int) := by simp
    have b1 : (0 : Int) ≤ 1 ∧ 1 ≤ ((a :: r).length : Int) := by simp; omega
    simp only [List.getD_cons_zero, List.drop_succ_cons, List.drop_zero, hw]
    refine ⟨fun h => ⟨h, b1⟩, fun h => ⟨h, b0⟩, fun h => ⟨h, h, ?_⟩, fun h => absurd h hne⟩
    rintro ⟨s, _⟩ _ es
    simp only at es ⊢
    refine ⟨fun hs => by rw [ToBitsD, if_neg (by rw [← es, hs]; decide)], fun hs => ?_⟩
    have hbb : ToBitsD (a :: r) = (r, a, 0) := by rw [ToBitsD, if_pos (by rw [← es]; exact hs)]
    rw [hbb]
    have hl : lenB r ≤ 1000000000 := by rw [lenB]; omega
    repeat' first | exact b0 | exact b1 | exact hl | exact trivial | refine ⟨?_, ?_⟩ | (intro y _ ey; first | rw [ey] | exact ⟨b0, by rw [ey]⟩)
theorem h125 : c_num_ToBits.ok Tryz.prog GL 125 := con_ok (H := {}) (mkEnv_ok (gl := GL) (l := [(159, conSem c_num_fits), (123, conSem c_slices_Clone_byte_byte)]) (q := []) (d := []) _ tyOk (by kernel_rfl) ⟨h159.call, h123.call, trivial⟩ trivial trivial) (by kernel_rfl) (by kernel_rfl) (Eq.mp e125 k125)
def t82 : Prop :=
  ∀ (x : q5), (q96 x) -> lenB x.1 <= q252 -> lenB x.1 <= q252 /\ (∀ (y : List Int × Int × Int × Unit), (wyZ y.1 /\ wiZ y.2.1 /\ wiZ y.2.2.1 /\ True) -> (y.1, y.2.1, y.2.2.1) = ToBitsD x.1 ->
  (decide (y.2.2.1 ≠ q34) = true -> (q34, y.2.2.1) = ToFlagsD x.1) /\ (decide (y.2.2.1 ≠ q34) = false -> (decide (q332 < (lnZ y.1)) = true -> True) /\ (decide (q332 < (lnZ y.1)) = true ->
  True) /\ (q255 y) /\ (q255 y) /\ (decide (q332 < (lnZ y.1)) = true -> (q256 y) = true /\ (q256 y) = true /\ (q34 <= wrZ ((lnZ y.1) - q62) /\ wrZ ((lnZ y.1) - q62) < (lnZ y.1)) /\ True) /\
  (q255 y) /\ (decide (q332 < (lnZ y.1)) = true -> True) /\ (decide (q332 < (lnZ y.1)) = true -> (q256 y) = true /\ q34 <= y.2.1 /\ True) /\ (decide (q332 < (lnZ y.1)) = true -> (q256 y) =
  true /\ (q256 y) = true /\ True) /\ (q255 y) /\ (decide (q332 < (lnZ y.1)) = true -> (q256 y) = true) /\ ((q253 y) = true -> (q34, (20 : Int)) = ToFlagsD x.1) /\ ((q253 y) = false ->
  (decide (q67 < (lnZ y.1)) = true -> (q34, (21 : Int)) = ToFlagsD x.1) /\ (decide (q67 < (lnZ y.1)) = false -> ∃ (I : q12), ∃ (μ : q13), ((lnZ y.1) = (lnZ y.1) /\ y.1 = y.1 /\ Value.bool
  false = Value.bool false /\ Value.bool false = Value.bool false /\ Value.bool false = Value.bool false /\ y.2.2.1 = y.2.2.1 /\ y.2.1 = y.2.1 /\ y.1 = y.1 /\ q34 = q34 /\ q34 = q34 /\ x.1 =
  x.1 /\ I (q34, q34, ()) ()) /\ ∀ (y_1 : q6) (z : Unit), (wiZ y_1.1 /\ Kd.wf (Kd.int IntKind.u16) y_1.2.1 /\ True) -> True -> I y_1 z -> (decide (y_1.1 < (lnZ y.1)) = true -> (q34 <= y_1.1
  /\ y_1.1 < (lnZ y.1)) /\ q34 <= wrZ (q76 - wrZ (q76 * y_1.1)) /\ (lnZ y.1) = (lnZ y.1) /\ y.1 = y.1 /\ Value.bool false = Value.bool false /\ Value.bool false = Value.bool false /\
  Value.bool false = Value.bool false /\ y.2.2.1 = y.2.2.1 /\ y.2.1 = y.2.1 /\ y.1 = y.1 /\ q34 = q34 /\ q34 = q34 /\ x.1 = x.1 /\ I (wrZ (y_1.1 + q334), IntKind.wrap IntKind.u16 (q254 y_1
  y), ()) () /\ μ (wrZ (y_1.1 + q334), IntKind.wrap IntKind.u16 (q254 y_1 y), ()) () < μ y_1 z) /\ (decide (y_1.1 < (lnZ y.1)) = false -> True /\ (∀ (y : q1), (q224 y) -> y.1 = (↑(prev
  (Int.toNat y_1.2.1 / (256 : Nat)) q66) : Int) + (256 : Int) * (↑(prev (Int.toNat y_1.2.1 % (256 : Nat)) q66) : Int) -> (y.1, q34) = ToFlagsD x.1) /\ True))))) /\ True
theorem e82 : t82 = Con.vc c_num_ToFlags GL (mkEnv ty [(125, conSem c_num_ToBits), (126, conSem c_math_bits_Reverse16)] [] [] [0, 2, 3, 4, 5, 6, 7, 8, 9, 16, 20, 36, 40, 41, 42, 43]) {} Tryz.f82.ntmps Tryz.f82.results.toList (bodyOf Tryz.f82) := by kernel_rfl
theorem k82 : t82 := by
  unfold t82
  delta q5 q96 q252 wyZ wiZ q34 q332 lnZ q255 q256 wrZ q62 q253 q67 q12 q13 q6 q76 q334 q254 q1 q224 q66 q360 q375 q343 q454
  rintro ⟨l, _⟩ hx hp
  have hp : l.length ≤ 2000000 := hp
  try dsimp +instances only [dft_int, dft_sl, dft_str]
  simp only [true_and, and_true, eq_self_iff_true, implies_true, reduceCtorEq, false_implies, true_implies, decide_eq_true_eq, decide_eq_false_iff_not, beq_self_eq_true, Bool.not_eq_true', ne_eq, Decidable.not_not, List.nil_append, List.length_singleton, List.length_cons, List.length_nil, Nat.zero_add, Nat.add_zero, Nat.mul_one, and_self, beq_iff_eq, Bool.not_true, Bool.not_false, Bool.not_eq_false', Bool.cond_false_right, Bool.and_eq_true, imp_self, Bool.not_eq_true, Bool.cond_true_left, Bool.or_eq_true]
  refine ⟨hp, ?_⟩
  rintro ⟨bits, un, code, _⟩ hy ey
  simp only at hy ey ⊢
  have hT : ToFlagsD l = (if code ≠ 0 then (0, code) else if bits ≠ [] ∧ (bits.getLastD 0 / 2 ^ un.toNat) % 2 = 0 then (0, 20) else if 2 < bits.length then (0, 21) else (flagsD bits, 0)) := by rw [ToFlagsD, ← ey]
  refine ⟨fun h => by rw [hT, if_pos h], fun h => ?_⟩
  have hsp : FitsD bits un = true ∧ l = un :: bits := by
    rcases bits_spec ey with h1 | h1
    . exact h1.2
    . omega
  obtain ⟨h0, h7, he, hz⟩ := fits_rng hsp.1
  have hbl : bits.length ≤ 2000000 := by have := congrArg List.length hsp.2; simp at this; omega
  rw [hT, if_neg (fun hc => hc h)]
  have hw : IntKind.wrap .i64 ((bits.length : Int) - 1) = bits.length - 1 := wrapk _ (by omega) (by omega)
  have key : bits ≠ [] → (IntKind.wrap .u8 ↑(BitVec.ofInt 8 (bits.getD (IntKind.wrap .i64 ((bits.length : Int) - 1)).toNat 0) &&& BitVec.ofInt 8 (IntKind.wrap .u8 (1 * 2 ^ min un.toNat 8))).toNat = 0 ↔ (bits.getLastD 0 / 2 ^ un.toNat) % 2 = 0) := by
    intro hne
    rw [hw, show ((bits.length : Int) - 1).toNat = bits.length - 1 by omega, nlast_get bits hne]
    have hb := get_bnd hy.1 (bits.length - 1)
    rw [nlast_get bits hne] at hb
    exact and_bit _ un.toNat hb (by omega)
  have hne : 0 < (bits.length : Int) → bits ≠ [] := fun h e => by rw [e] at h; simp at h
  refine ⟨fun h => ⟨h, h, by rw [hw]; omega, by rw [hw]; omega⟩, fun h => ⟨h, h0⟩, fun h => by rw [if_pos ⟨hne h.1, (key (hne h.1)).1 h.2⟩], fun h => ?_⟩
  have hc : ¬ (bits ≠ [] ∧ (bits.getLastD 0 / 2 ^ un.toNat) % 2 = 0) := fun ⟨h1, h2⟩ => by
    have hl : 0 < bits.length := List.length_pos_iff.2 h1
    rcases Bool.and_eq_false_iff.1 h with h | h
    . exact of_decide_eq_false h (by omega)
    . exact of_decide_eq_false h ((key h1).2 h2)
  rw [if_neg hc]
  refine ⟨fun h2 => by rw [if_pos (by omega)], fun h2 => ?_⟩
  rw [if_neg (by omega)]
  rcases bits with _ | ⟨a, _ | ⟨b, _ | ⟨c, r⟩⟩⟩
  . refine ⟨fun y _ => y.1 = 0 ∧ y.2.1 = 0, fun _ _ => 0, ⟨rfl, rfl⟩, ?_⟩
    rintro ⟨i, v, _⟩ z _ ⟨h1, h3⟩
    simp only at h1 h3 ⊢
    subst h1 h3
    exact ⟨fun h => by simp at h, fun _ y _ ey => by rw [ey]; decide⟩
  . have ha := head_bnd hy.1
    refine ⟨fun y _ => (y.1 = 0 ∧ y.2.1 = 0) ∨ (y.1 = 1 ∧ y.2.1 = a * 256), fun y _ => (1 - y.1).toNat, .inl ⟨rfl, rfl⟩, ?_⟩
    rintro ⟨i, v, _⟩ z _ hI
    simp only at hI ⊢
    refine ⟨fun hlt => ?_, fun hge y _ ey => ?_⟩
    . have hi : i = 0 := by simp at hlt; omega
      have hv : v = 0 := by omega
      subst hi hv
      have e0 : ([a] : List Int).getD (0 : Int).toNat 0 = a := rfl
      rw [e0, hi_eq _ ha]
      exact ⟨by simp, by decide, .inr ⟨by decide, rfl⟩, by decide⟩
    . have hi : i = 1 := by simp at hge; omega
      have hv : v = a * 256 := by omega
      rw [ey, hv, show (a * 256).toNat / 256 = a.toNat by omega, show (a * 256).toNat % 256 = 0 by omega]
      have : prev 0 8 = 0 := by decide
      simp [flagsD, this]
  . have ha := head_bnd hy.1
    have hb := head_bnd (tail_wf hy.1)
    refine ⟨fun y _ => (y.1 = 0 ∧ y.2.1 = 0) ∨ (y.1 = 1 ∧ y.2.1 = a * 256) ∨ (y.1 = 2 ∧ y.2.1 = a * 256 + b), fun y _ => (2 - y.1).toNat, .inl ⟨rfl, rfl⟩, ?_⟩
    rintro ⟨i, v, _⟩ z _ hI
    simp only at hI ⊢
    refine ⟨fun hlt => ?_, fun hge y _ ey => ?_⟩
    . have hlt : i < 2 := by simpa using hlt
      rcases hI with ⟨hi, hv⟩ | ⟨hi, hv⟩ | ⟨hi, hv⟩
      . subst hi hv
        have e0 : ([a, b] : List Int).getD (0 : Int).toNat 0 = a := rfl
        rw [e0, hi_eq _ ha]
        exact ⟨by simp, by decide, .inr (.inl ⟨by decide, rfl⟩), by decide⟩
      . subst hi hv
        have e0 : ([a, b] : List Int).getD (1 : Int).toNat 0 = b := rfl
        rw [e0, lo_eq _ hb, nor16 a b hb ha]
        exact ⟨by simp, by decide, .inr (.inr ⟨by decide, rfl⟩), by decide⟩
      . omega
    . have hge : ¬ i < 2 := by simpa using hge
      have hv : v = a * 256 + b := by omega
      rw [ey, hv, show (a * 256 + b).toNat / 256 = a.toNat by omega, show (a * 256 + b).toNat % 256 = b.toNat by omega]
      simp [flagsD]
  . simp at h2
    omega
theorem h82 : c_num_ToFlags.ok Tryz.prog GL 82 := con_ok (H := {}) (mkEnv_ok (gl := GL) (l := [(125, conSem c_num_ToBits), (126, conSem c_math_bits_Reverse16)]) (q := []) (d := []) _ tyOk (by kernel_rfl) ⟨h125.call, h126.call, trivial⟩ trivial trivial) (by kernel_rfl) (by kernel_rfl) (Eq.mp e82 k82)
end Go.Proofs.YtiofbnlbfmbodaaGreatDoor
end
