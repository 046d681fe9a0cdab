/- The types of the program, as the walk asks them. -/
import Derived.Test.YtcaekpbmmbfeiaaDoorProg
import Derived.Test.YtcaekpbmmbfeiaaDoorZV04
namespace Go.Proofs.YtcaekpbmmbfeiaaDoor
set_option maxRecDepth 100000
open Go Go.Vc Go.Proofs
def tys : List (Nat × TI) := [
  (1, ⟨.fn, none, 1, 8, [.nilFunc]⟩),
  (2, ⟨.int .i64, some (.int .i64), 1, 8, [.int .i64 0]⟩),
  (3, ⟨.int .i64, some (.int .i64), 1, 8, [.int .i64 0]⟩),
  (4, ⟨.bool, some .bool, 1, 1, [.bool false]⟩),
  (5, ⟨.int .u8, some (.int .u8), 1, 1, [.int .u8 0]⟩),
  (6, ⟨.int .u8, some (.int .u8), 1, 1, [.int .u8 0]⟩),
  (7, ⟨.st [(2, 0), (3, 1), (4, 2), (6, 3)], some (.pair (.int .i64) (.pair (.int .i64) (.pair .bool (.int .u8)))), 4, 24, [.int .i64 0, .int .i64 0, .bool false, .int .u8 0]⟩),
  (8, ⟨.st [(2, 0), (3, 1), (4, 2), (6, 3)], some (.pair (.int .i64) (.pair (.int .i64) (.pair .bool (.int .u8)))), 4, 24, [.int .i64 0, .int .i64 0, .bool false, .int .u8 0]⟩),
  (9, ⟨.str, some .str, 1, 16, [.string ⟨#[]⟩]⟩),
  (10, ⟨.str, some .str, 1, 16, [.string ⟨#[]⟩]⟩),
  (11, ⟨.str, some .str, 1, 16, [.string ⟨#[]⟩]⟩),
  (12, ⟨.int .u64, some (.int .u64), 1, 8, [.int .u64 0]⟩),
  (13, ⟨.st [(9, 0), (12, 1)], some (.pair .str (.int .u64)), 2, 24, [.string ⟨#[]⟩, .int .u64 0]⟩),
  (14, ⟨.st [(9, 0), (12, 1)], some (.pair .str (.int .u64)), 2, 24, [.string ⟨#[]⟩, .int .u64 0]⟩),
  (15, ⟨.ptr 159, none, 1, 8, [.pointer none]⟩),
  (16, ⟨.ptr 162, none, 1, 8, [.pointer none]⟩),
  (17, ⟨.ptr 170, none, 1, 8, [.pointer none]⟩),
  (18, ⟨.st [(17, 0)], none, 1, 8, [.pointer none]⟩),
  (19, ⟨.st [(17, 0)], none, 1, 8, [.pointer none]⟩),
  (20, ⟨.ifc, none, 1, 16, [.nilIface]⟩),
  (21, ⟨.int .i32, some (.int .i32), 1, 4, [.int .i32 0]⟩),
  (22, ⟨.sl 56, some (.sl (.pair (.int .i64) .str)), 1, 24, [.slice none 0 0]⟩),
  (23, ⟨.sl 56, some (.sl (.pair (.int .i64) .str)), 1, 24, [.slice none 0 0]⟩),
  (24, ⟨.fn, none, 1, 8, [.nilFunc]⟩),
  (25, ⟨.fn, none, 1, 8, [.nilFunc]⟩),
  (26, ⟨.fn, none, 1, 8, [.nilFunc]⟩),
  (27, ⟨.int .u64, some (.int .u64), 1, 8, [.int .u64 0]⟩),
  (28, ⟨.fn, none, 1, 8, [.nilFunc]⟩),
  (29, ⟨.int .i64, some (.int .i64), 1, 8, [.int .i64 0]⟩),
  (31, ⟨.fn, none, 1, 8, [.nilFunc]⟩),
  (33, ⟨.fn, none, 1, 8, [.nilFunc]⟩),
  (34, ⟨.fn, none, 1, 8, [.nilFunc]⟩),
  (35, ⟨.fn, none, 1, 8, [.nilFunc]⟩),
  (36, ⟨.fn, none, 1, 8, [.nilFunc]⟩),
  (37, ⟨.fn, none, 1, 8, [.nilFunc]⟩),
  (38, ⟨.sl 9, some (.sl .str), 1, 24, [.slice none 0 0]⟩),
  (39, ⟨.fn, none, 1, 8, [.nilFunc]⟩),
  (40, ⟨.fn, none, 1, 8, [.nilFunc]⟩),
  (41, ⟨.sl 5, some (.sl (.int .u8)), 1, 24, [.slice none 0 0]⟩),
  (42, ⟨.fn, none, 1, 8, [.nilFunc]⟩),
  (43, ⟨.fn, none, 1, 8, [.nilFunc]⟩),
  (44, ⟨.fn, none, 1, 8, [.nilFunc]⟩),
  (46, ⟨.fn, none, 1, 8, [.nilFunc]⟩),
  (48, ⟨.fn, none, 1, 8, [.nilFunc]⟩),
  (50, ⟨.fn, none, 1, 8, [.nilFunc]⟩),
  (52, ⟨.fn, none, 1, 8, [.nilFunc]⟩),
  (53, ⟨.fn, none, 1, 8, [.nilFunc]⟩),
  (54, ⟨.fn, none, 1, 8, [.nilFunc]⟩),
  (55, ⟨.st [(3, 0), (9, 1)], some (.pair (.int .i64) .str), 2, 24, [.int .i64 0, .string ⟨#[]⟩]⟩),
  (56, ⟨.st [(3, 0), (9, 1)], some (.pair (.int .i64) .str), 2, 24, [.int .i64 0, .string ⟨#[]⟩]⟩),
  (57, ⟨.fn, none, 1, 8, [.nilFunc]⟩),
  (58, ⟨.fn, none, 1, 8, [.nilFunc]⟩),
  (60, ⟨.fn, none, 1, 8, [.nilFunc]⟩),
  (62, ⟨.fn, none, 1, 8, [.nilFunc]⟩),
  (63, ⟨.fn, none, 1, 8, [.nilFunc]⟩),
  (64, ⟨.fn, none, 1, 8, [.nilFunc]⟩),
  (65, ⟨.fn, none, 1, 8, [.nilFunc]⟩),
  (66, ⟨.fn, none, 1, 8, [.nilFunc]⟩),
  (67, ⟨.st [(3, 0), (41, 1)], some (.pair (.int .i64) (.sl (.int .u8))), 2, 32, [.int .i64 0, .slice none 0 0]⟩),
  (68, ⟨.st [(3, 0), (41, 1)], some (.pair (.int .i64) (.sl (.int .u8))), 2, 32, [.int .i64 0, .slice none 0 0]⟩),
  (70, ⟨.fn, none, 1, 8, [.nilFunc]⟩),
  (71, ⟨.sl 68, some (.sl (.pair (.int .i64) (.sl (.int .u8)))), 1, 24, [.slice none 0 0]⟩),
  (73, ⟨.fn, none, 1, 8, [.nilFunc]⟩),
  (75, ⟨.fn, none, 1, 8, [.nilFunc]⟩),
  (76, ⟨.st [(3, 0), (41, 1)], some (.pair (.int .i64) (.sl (.int .u8))), 2, 32, [.int .i64 0, .slice none 0 0]⟩),
  (78, ⟨.fn, none, 1, 8, [.nilFunc]⟩),
  (79, ⟨.fn, none, 1, 8, [.nilFunc]⟩),
  (80, ⟨.sl 41, some (.sl (.sl (.int .u8))), 1, 24, [.slice none 0 0]⟩),
  (82, ⟨.fn, none, 1, 8, [.nilFunc]⟩),
  (83, ⟨.fn, none, 1, 8, [.nilFunc]⟩),
  (84, ⟨.sl 3, some (.sl (.int .i64)), 1, 24, [.slice none 0 0]⟩),
  (85, ⟨.fn, none, 1, 8, [.nilFunc]⟩),
  (86, ⟨.fn, none, 1, 8, [.nilFunc]⟩),
  (88, ⟨.fn, none, 1, 8, [.nilFunc]⟩),
  (89, ⟨.fn, none, 1, 8, [.nilFunc]⟩),
  (90, ⟨.fn, none, 1, 8, [.nilFunc]⟩),
  (91, ⟨.fn, none, 1, 8, [.nilFunc]⟩),
  (93, ⟨.fn, none, 1, 8, [.nilFunc]⟩),
  (94, ⟨.fn, none, 1, 8, [.nilFunc]⟩),
  (95, ⟨.fn, none, 1, 8, [.nilFunc]⟩),
  (96, ⟨.fn, none, 1, 8, [.nilFunc]⟩),
  (97, ⟨.fn, none, 1, 8, [.nilFunc]⟩),
  (99, ⟨.fn, none, 1, 8, [.nilFunc]⟩),
  (101, ⟨.fn, none, 1, 8, [.nilFunc]⟩),
  (102, ⟨.fn, none, 1, 8, [.nilFunc]⟩),
  (104, ⟨.fn, none, 1, 8, [.nilFunc]⟩),
  (105, ⟨.sl 76, some (.sl (.pair (.int .i64) (.sl (.int .u8)))), 1, 24, [.slice none 0 0]⟩),
  (107, ⟨.fn, none, 1, 8, [.nilFunc]⟩),
  (108, ⟨.fn, none, 1, 8, [.nilFunc]⟩),
  (109, ⟨.fn, none, 1, 8, [.nilFunc]⟩),
  (110, ⟨.fn, none, 1, 8, [.nilFunc]⟩),
  (111, ⟨.fn, none, 1, 8, [.nilFunc]⟩),
  (112, ⟨.fn, none, 1, 8, [.nilFunc]⟩),
  (113, ⟨.fn, none, 1, 8, [.nilFunc]⟩),
  (114, ⟨.ptr 116, none, 1, 8, [.pointer none]⟩),
  (115, ⟨.st [(114, 0), (41, 1)], none, 2, 32, [.pointer none, .slice none 0 0]⟩),
  (116, ⟨.st [(114, 0), (41, 1)], none, 2, 32, [.pointer none, .slice none 0 0]⟩),
  (117, ⟨.fn, none, 1, 8, [.nilFunc]⟩),
  (118, ⟨.ifc, none, 1, 16, [.nilIface]⟩),
  (119, ⟨.ifc, none, 1, 16, [.nilIface]⟩),
  (121, ⟨.fn, none, 1, 8, [.nilFunc]⟩),
  (122, ⟨.fn, none, 1, 8, [.nilFunc]⟩),
  (123, ⟨.fn, none, 1, 8, [.nilFunc]⟩),
  (124, ⟨.fn, none, 1, 8, [.nilFunc]⟩),
  (125, ⟨.fn, none, 1, 8, [.nilFunc]⟩),
  (127, ⟨.fn, none, 1, 8, [.nilFunc]⟩),
  (128, ⟨.fn, none, 1, 8, [.nilFunc]⟩),
  (129, ⟨.fn, none, 1, 8, [.nilFunc]⟩),
  (130, ⟨.st [(29, 0)], some (.pair (.int .i64) .unit), 1, 8, [.int .i64 0]⟩),
  (131, ⟨.st [(29, 0)], some (.pair (.int .i64) .unit), 1, 8, [.int .i64 0]⟩),
  (133, ⟨.fn, none, 1, 8, [.nilFunc]⟩),
  (134, ⟨.fn, none, 1, 8, [.nilFunc]⟩),
  (135, ⟨.fn, none, 1, 8, [.nilFunc]⟩),
  (137, ⟨.fn, none, 1, 8, [.nilFunc]⟩),
  (138, ⟨.fn, none, 1, 8, [.nilFunc]⟩),
  (139, ⟨.fn, none, 1, 8, [.nilFunc]⟩),
  (140, ⟨.ptr 5, none, 1, 8, [.pointer none]⟩),
  (141, ⟨.fn, none, 1, 8, [.nilFunc]⟩),
  (142, ⟨.int .u64, some (.int .u64), 1, 8, [.int .u64 0]⟩),
  (144, ⟨.fn, none, 1, 8, [.nilFunc]⟩),
  (146, ⟨.fn, none, 1, 8, [.nilFunc]⟩),
  (147, ⟨.fn, none, 1, 8, [.nilFunc]⟩),
  (149, ⟨.fn, none, 1, 8, [.nilFunc]⟩),
  (150, ⟨.int .u32, some (.int .u32), 1, 4, [.int .u32 0]⟩),
  (152, ⟨.fn, none, 1, 8, [.nilFunc]⟩),
  (153, ⟨.fn, none, 1, 8, [.nilFunc]⟩),
  (154, ⟨.arr 256 5, none, 256, 256, List.replicate 256 (.int .u8 0)⟩),
  (155, ⟨.st [(5, 0), (5, 1)], some (.pair (.int .u8) (.int .u8)), 2, 2, [.int .u8 0, .int .u8 0]⟩),
  (156, ⟨.st [(5, 0), (5, 1)], some (.pair (.int .u8) (.int .u8)), 2, 2, [.int .u8 0, .int .u8 0]⟩),
  (157, ⟨.arr 16 156, none, 32, 32, List.replicate 32 (.int .u8 0)⟩),
  (158, ⟨.st [(17, 0), (17, 1), (17, 2), (9, 3)], none, 4, 40, [.pointer none, .pointer none, .pointer none, .string ⟨#[]⟩]⟩),
  (159, ⟨.st [(17, 0), (17, 1), (17, 2), (9, 3)], none, 4, 40, [.pointer none, .pointer none, .pointer none, .string ⟨#[]⟩]⟩),
  (160, ⟨.arr 0 16, none, 0, 0, []⟩),
  (161, ⟨.st [(160, 0)], none, 0, 0, []⟩),
  (162, ⟨.st [(160, 0)], none, 0, 0, []⟩),
  (163, ⟨.fn, none, 1, 8, [.nilFunc]⟩),
  (164, ⟨.int .u8, some (.int .u8), 1, 1, [.int .u8 0]⟩),
  (165, ⟨.int .u8, some (.int .u8), 1, 1, [.int .u8 0]⟩),
  (166, ⟨.fn, none, 1, 8, [.nilFunc]⟩),
  (167, ⟨.int .i32, some (.int .i32), 1, 4, [.int .i32 0]⟩),
  (168, ⟨.int .i32, some (.int .i32), 1, 4, [.int .i32 0]⟩),
  (169, ⟨.st [(12, 0), (12, 1), (150, 2), (164, 3), (5, 4), (5, 5), (165, 6), (166, 7), (140, 8), (167, 9), (168, 10)], none, 11, 48, [.int .u64 0, .int .u64 0, .int .u32 0, .int .u8 0, .int .u8 0, .int .u8 0, .int .u8 0, .nilFunc, .pointer none, .int .i32 0, .int .i32 0]⟩),
  (170, ⟨.st [(12, 0), (12, 1), (150, 2), (164, 3), (5, 4), (5, 5), (165, 6), (166, 7), (140, 8), (167, 9), (168, 10)], none, 11, 48, [.int .u64 0, .int .u64 0, .int .u32 0, .int .u8 0, .int .u8 0, .int .u8 0, .int .u8 0, .nilFunc, .pointer none, .int .i32 0, .int .i32 0]⟩)]
theorem ty1 : TI.ok Tryd.prog 1 ⟨.fn, none, 1, 8, [.nilFunc]⟩ := ⟨⟨_, _, _, rfl⟩, by kernel_rfl, by kernel_rfl, fun k h => by cases h⟩
theorem ty2 : TI.ok Tryd.prog 2 ⟨.int .i64, some (.int .i64), 1, 8, [.int .i64 0]⟩ := ⟨(by kernel_rfl : _ = _), by kernel_rfl, by kernel_rfl, fun k h => by cases h; exact ⟨by kernel_rfl, by kernel_rfl, by kernel_rfl⟩⟩
theorem ty3 : TI.ok Tryd.prog 3 ⟨.int .i64, some (.int .i64), 1, 8, [.int .i64 0]⟩ := ⟨(by kernel_rfl : _ = _), by kernel_rfl, by kernel_rfl, fun k h => by cases h; exact ⟨by kernel_rfl, by kernel_rfl, by kernel_rfl⟩⟩
theorem ty4 : TI.ok Tryd.prog 4 ⟨.bool, some .bool, 1, 1, [.bool false]⟩ := ⟨(by kernel_rfl : _ = _), by kernel_rfl, by kernel_rfl, fun k h => by cases h; exact ⟨by kernel_rfl, by kernel_rfl, by kernel_rfl⟩⟩
theorem ty5 : TI.ok Tryd.prog 5 ⟨.int .u8, some (.int .u8), 1, 1, [.int .u8 0]⟩ := ⟨(by kernel_rfl : _ = _), by kernel_rfl, by kernel_rfl, fun k h => by cases h; exact ⟨by kernel_rfl, by kernel_rfl, by kernel_rfl⟩⟩
theorem ty6 : TI.ok Tryd.prog 6 ⟨.int .u8, some (.int .u8), 1, 1, [.int .u8 0]⟩ := ⟨(by kernel_rfl : _ = _), by kernel_rfl, by kernel_rfl, fun k h => by cases h; exact ⟨by kernel_rfl, by kernel_rfl, by kernel_rfl⟩⟩
theorem ty7 : TI.ok Tryd.prog 7 ⟨.st [(2, 0), (3, 1), (4, 2), (6, 3)], some (.pair (.int .i64) (.pair (.int .i64) (.pair .bool (.int .u8)))), 4, 24, [.int .i64 0, .int .i64 0, .bool false, .int .u8 0]⟩ := ⟨⟨by kernel_rfl, by kernel_rfl⟩, by kernel_rfl, by kernel_rfl, fun k h => by cases h; exact ⟨by kernel_rfl, by kernel_rfl, by kernel_rfl⟩⟩
theorem ty8 : TI.ok Tryd.prog 8 ⟨.st [(2, 0), (3, 1), (4, 2), (6, 3)], some (.pair (.int .i64) (.pair (.int .i64) (.pair .bool (.int .u8)))), 4, 24, [.int .i64 0, .int .i64 0, .bool false, .int .u8 0]⟩ := ⟨⟨by kernel_rfl, by kernel_rfl⟩, by kernel_rfl, by kernel_rfl, fun k h => by cases h; exact ⟨by kernel_rfl, by kernel_rfl, by kernel_rfl⟩⟩
theorem ty9 : TI.ok Tryd.prog 9 ⟨.str, some .str, 1, 16, [.string ⟨#[]⟩]⟩ := ⟨(by kernel_rfl : _ = _), by kernel_rfl, by kernel_rfl, fun k h => by cases h; exact ⟨by kernel_rfl, by kernel_rfl, by kernel_rfl⟩⟩
theorem ty10 : TI.ok Tryd.prog 10 ⟨.str, some .str, 1, 16, [.string ⟨#[]⟩]⟩ := ⟨(by kernel_rfl : _ = _), by kernel_rfl, by kernel_rfl, fun k h => by cases h; exact ⟨by kernel_rfl, by kernel_rfl, by kernel_rfl⟩⟩
theorem ty11 : TI.ok Tryd.prog 11 ⟨.str, some .str, 1, 16, [.string ⟨#[]⟩]⟩ := ⟨(by kernel_rfl : _ = _), by kernel_rfl, by kernel_rfl, fun k h => by cases h; exact ⟨by kernel_rfl, by kernel_rfl, by kernel_rfl⟩⟩
theorem ty12 : TI.ok Tryd.prog 12 ⟨.int .u64, some (.int .u64), 1, 8, [.int .u64 0]⟩ := ⟨(by kernel_rfl : _ = _), by kernel_rfl, by kernel_rfl, fun k h => by cases h; exact ⟨by kernel_rfl, by kernel_rfl, by kernel_rfl⟩⟩
theorem ty13 : TI.ok Tryd.prog 13 ⟨.st [(9, 0), (12, 1)], some (.pair .str (.int .u64)), 2, 24, [.string ⟨#[]⟩, .int .u64 0]⟩ := ⟨⟨by kernel_rfl, by kernel_rfl⟩, by kernel_rfl, by kernel_rfl, fun k h => by cases h; exact ⟨by kernel_rfl, by kernel_rfl, by kernel_rfl⟩⟩
theorem ty14 : TI.ok Tryd.prog 14 ⟨.st [(9, 0), (12, 1)], some (.pair .str (.int .u64)), 2, 24, [.string ⟨#[]⟩, .int .u64 0]⟩ := ⟨⟨by kernel_rfl, by kernel_rfl⟩, by kernel_rfl, by kernel_rfl, fun k h => by cases h; exact ⟨by kernel_rfl, by kernel_rfl, by kernel_rfl⟩⟩
theorem ty15 : TI.ok Tryd.prog 15 ⟨.ptr 159, none, 1, 8, [.pointer none]⟩ := ⟨(by kernel_rfl : _ = _), by kernel_rfl, by kernel_rfl, fun k h => by cases h⟩
theorem ty16 : TI.ok Tryd.prog 16 ⟨.ptr 162, none, 1, 8, [.pointer none]⟩ := ⟨(by kernel_rfl : _ = _), by kernel_rfl, by kernel_rfl, fun k h => by cases h⟩
theorem ty17 : TI.ok Tryd.prog 17 ⟨.ptr 170, none, 1, 8, [.pointer none]⟩ := ⟨(by kernel_rfl : _ = _), by kernel_rfl, by kernel_rfl, fun k h => by cases h⟩
theorem ty18 : TI.ok Tryd.prog 18 ⟨.st [(17, 0)], none, 1, 8, [.pointer none]⟩ := ⟨⟨by kernel_rfl, by kernel_rfl⟩, by kernel_rfl, by kernel_rfl, fun k h => by cases h⟩
theorem ty19 : TI.ok Tryd.prog 19 ⟨.st [(17, 0)], none, 1, 8, [.pointer none]⟩ := ⟨⟨by kernel_rfl, by kernel_rfl⟩, by kernel_rfl, by kernel_rfl, fun k h => by cases h⟩
theorem ty20 : TI.ok Tryd.prog 20 ⟨.ifc, none, 1, 16, [.nilIface]⟩ := ⟨⟨_, rfl⟩, by kernel_rfl, by kernel_rfl, fun k h => by cases h⟩
theorem ty21 : TI.ok Tryd.prog 21 ⟨.int .i32, some (.int .i32), 1, 4, [.int .i32 0]⟩ := ⟨(by kernel_rfl : _ = _), by kernel_rfl, by kernel_rfl, fun k h => by cases h; exact ⟨by kernel_rfl, by kernel_rfl, by kernel_rfl⟩⟩
theorem ty22 : TI.ok Tryd.prog 22 ⟨.sl 56, some (.sl (.pair (.int .i64) .str)), 1, 24, [.slice none 0 0]⟩ := ⟨(by kernel_rfl : _ = _), by kernel_rfl, by kernel_rfl, fun k h => by cases h; exact ⟨by kernel_rfl, by kernel_rfl, by kernel_rfl⟩⟩
theorem ty23 : TI.ok Tryd.prog 23 ⟨.sl 56, some (.sl (.pair (.int .i64) .str)), 1, 24, [.slice none 0 0]⟩ := ⟨(by kernel_rfl : _ = _), by kernel_rfl, by kernel_rfl, fun k h => by cases h; exact ⟨by kernel_rfl, by kernel_rfl, by kernel_rfl⟩⟩
theorem ty24 : TI.ok Tryd.prog 24 ⟨.fn, none, 1, 8, [.nilFunc]⟩ := ⟨⟨_, _, _, rfl⟩, by kernel_rfl, by kernel_rfl, fun k h => by cases h⟩
theorem ty25 : TI.ok Tryd.prog 25 ⟨.fn, none, 1, 8, [.nilFunc]⟩ := ⟨⟨_, _, _, rfl⟩, by kernel_rfl, by kernel_rfl, fun k h => by cases h⟩
theorem ty26 : TI.ok Tryd.prog 26 ⟨.fn, none, 1, 8, [.nilFunc]⟩ := ⟨⟨_, _, _, rfl⟩, by kernel_rfl, by kernel_rfl, fun k h => by cases h⟩
theorem ty27 : TI.ok Tryd.prog 27 ⟨.int .u64, some (.int .u64), 1, 8, [.int .u64 0]⟩ := ⟨(by kernel_rfl : _ = _), by kernel_rfl, by kernel_rfl, fun k h => by cases h; exact ⟨by kernel_rfl, by kernel_rfl, by kernel_rfl⟩⟩
theorem ty28 : TI.ok Tryd.prog 28 ⟨.fn, none, 1, 8, [.nilFunc]⟩ := ⟨⟨_, _, _, rfl⟩, by kernel_rfl, by kernel_rfl, fun k h => by cases h⟩
theorem ty29 : TI.ok Tryd.prog 29 ⟨.int .i64, some (.int .i64), 1, 8, [.int .i64 0]⟩ := ⟨(by kernel_rfl : _ = _), by kernel_rfl, by kernel_rfl, fun k h => by cases h; exact ⟨by kernel_rfl, by kernel_rfl, by kernel_rfl⟩⟩
theorem ty31 : TI.ok Tryd.prog 31 ⟨.fn, none, 1, 8, [.nilFunc]⟩ := ⟨⟨_, _, _, rfl⟩, by kernel_rfl, by kernel_rfl, fun k h => by cases h⟩
theorem ty33 : TI.ok Tryd.prog 33 ⟨.fn, none, 1, 8, [.nilFunc]⟩ := ⟨⟨_, _, _, rfl⟩, by kernel_rfl, by kernel_rfl, fun k h => by cases h⟩
theorem ty34 : TI.ok Tryd.prog 34 ⟨.fn, none, 1, 8, [.nilFunc]⟩ := ⟨⟨_, _, _, rfl⟩, by kernel_rfl, by kernel_rfl, fun k h => by cases h⟩
theorem ty35 : TI.ok Tryd.prog 35 ⟨.fn, none, 1, 8, [.nilFunc]⟩ := ⟨⟨_, _, _, rfl⟩, by kernel_rfl, by kernel_rfl, fun k h => by cases h⟩
theorem ty36 : TI.ok Tryd.prog 36 ⟨.fn, none, 1, 8, [.nilFunc]⟩ := ⟨⟨_, _, _, rfl⟩, by kernel_rfl, by kernel_rfl, fun k h => by cases h⟩
theorem ty37 : TI.ok Tryd.prog 37 ⟨.fn, none, 1, 8, [.nilFunc]⟩ := ⟨⟨_, _, _, rfl⟩, by kernel_rfl, by kernel_rfl, fun k h => by cases h⟩
theorem ty38 : TI.ok Tryd.prog 38 ⟨.sl 9, some (.sl .str), 1, 24, [.slice none 0 0]⟩ := ⟨(by kernel_rfl : _ = _), by kernel_rfl, by kernel_rfl, fun k h => by cases h; exact ⟨by kernel_rfl, by kernel_rfl, by kernel_rfl⟩⟩
theorem ty39 : TI.ok Tryd.prog 39 ⟨.fn, none, 1, 8, [.nilFunc]⟩ := ⟨⟨_, _, _, rfl⟩, by kernel_rfl, by kernel_rfl, fun k h => by cases h⟩
theorem ty40 : TI.ok Tryd.prog 40 ⟨.fn, none, 1, 8, [.nilFunc]⟩ := ⟨⟨_, _, _, rfl⟩, by kernel_rfl, by kernel_rfl, fun k h => by cases h⟩
theorem ty41 : TI.ok Tryd.prog 41 ⟨.sl 5, some (.sl (.int .u8)), 1, 24, [.slice none 0 0]⟩ := ⟨(by kernel_rfl : _ = _), by kernel_rfl, by kernel_rfl, fun k h => by cases h; exact ⟨by kernel_rfl, by kernel_rfl, by kernel_rfl⟩⟩
theorem ty42 : TI.ok Tryd.prog 42 ⟨.fn, none, 1, 8, [.nilFunc]⟩ := ⟨⟨_, _, _, rfl⟩, by kernel_rfl, by kernel_rfl, fun k h => by cases h⟩
theorem ty43 : TI.ok Tryd.prog 43 ⟨.fn, none, 1, 8, [.nilFunc]⟩ := ⟨⟨_, _, _, rfl⟩, by kernel_rfl, by kernel_rfl, fun k h => by cases h⟩
theorem ty44 : TI.ok Tryd.prog 44 ⟨.fn, none, 1, 8, [.nilFunc]⟩ := ⟨⟨_, _, _, rfl⟩, by kernel_rfl, by kernel_rfl, fun k h => by cases h⟩
theorem ty46 : TI.ok Tryd.prog 46 ⟨.fn, none, 1, 8, [.nilFunc]⟩ := ⟨⟨_, _, _, rfl⟩, by kernel_rfl, by kernel_rfl, fun k h => by cases h⟩
theorem ty48 : TI.ok Tryd.prog 48 ⟨.fn, none, 1, 8, [.nilFunc]⟩ := ⟨⟨_, _, _, rfl⟩, by kernel_rfl, by kernel_rfl, fun k h => by cases h⟩
theorem ty50 : TI.ok Tryd.prog 50 ⟨.fn, none, 1, 8, [.nilFunc]⟩ := ⟨⟨_, _, _, rfl⟩, by kernel_rfl, by kernel_rfl, fun k h => by cases h⟩
theorem ty52 : TI.ok Tryd.prog 52 ⟨.fn, none, 1, 8, [.nilFunc]⟩ := ⟨⟨_, _, _, rfl⟩, by kernel_rfl, by kernel_rfl, fun k h => by cases h⟩
theorem ty53 : TI.ok Tryd.prog 53 ⟨.fn, none, 1, 8, [.nilFunc]⟩ := ⟨⟨_, _, _, rfl⟩, by kernel_rfl, by kernel_rfl, fun k h => by cases h⟩
theorem ty54 : TI.ok Tryd.prog 54 ⟨.fn, none, 1, 8, [.nilFunc]⟩ := ⟨⟨_, _, _, rfl⟩, by kernel_rfl, by kernel_rfl, fun k h => by cases h⟩
theorem ty55 : TI.ok Tryd.prog 55 ⟨.st [(3, 0), (9, 1)], some (.pair (.int .i64) .str), 2, 24, [.int .i64 0, .string ⟨#[]⟩]⟩ := ⟨⟨by kernel_rfl, by kernel_rfl⟩, by kernel_rfl, by kernel_rfl, fun k h => by cases h; exact ⟨by kernel_rfl, by kernel_rfl, by kernel_rfl⟩⟩
theorem ty56 : TI.ok Tryd.prog 56 ⟨.st [(3, 0), (9, 1)], some (.pair (.int .i64) .str), 2, 24, [.int .i64 0, .string ⟨#[]⟩]⟩ := ⟨⟨by kernel_rfl, by kernel_rfl⟩, by kernel_rfl, by kernel_rfl, fun k h => by cases h; exact ⟨by kernel_rfl, by kernel_rfl, by kernel_rfl⟩⟩
theorem ty57 : TI.ok Tryd.prog 57 ⟨.fn, none, 1, 8, [.nilFunc]⟩ := ⟨⟨_, _, _, rfl⟩, by kernel_rfl, by kernel_rfl, fun k h => by cases h⟩
theorem ty58 : TI.ok Tryd.prog 58 ⟨.fn, none, 1, 8, [.nilFunc]⟩ := ⟨⟨_, _, _, rfl⟩, by kernel_rfl, by kernel_rfl, fun k h => by cases h⟩
theorem ty60 : TI.ok Tryd.prog 60 ⟨.fn, none, 1, 8, [.nilFunc]⟩ := ⟨⟨_, _, _, rfl⟩, by kernel_rfl, by kernel_rfl, fun k h => by cases h⟩
theorem ty62 : TI.ok Tryd.prog 62 ⟨.fn, none, 1, 8, [.nilFunc]⟩ := ⟨⟨_, _, _, rfl⟩, by kernel_rfl, by kernel_rfl, fun k h => by cases h⟩
theorem ty63 : TI.ok Tryd.prog 63 ⟨.fn, none, 1, 8, [.nilFunc]⟩ := ⟨⟨_, _, _, rfl⟩, by kernel_rfl, by kernel_rfl, fun k h => by cases h⟩
theorem ty64 : TI.ok Tryd.prog 64 ⟨.fn, none, 1, 8, [.nilFunc]⟩ := ⟨⟨_, _, _, rfl⟩, by kernel_rfl, by kernel_rfl, fun k h => by cases h⟩
theorem ty65 : TI.ok Tryd.prog 65 ⟨.fn, none, 1, 8, [.nilFunc]⟩ := ⟨⟨_, _, _, rfl⟩, by kernel_rfl, by kernel_rfl, fun k h => by cases h⟩
theorem ty66 : TI.ok Tryd.prog 66 ⟨.fn, none, 1, 8, [.nilFunc]⟩ := ⟨⟨_, _, _, rfl⟩, by kernel_rfl, by kernel_rfl, fun k h => by cases h⟩
theorem ty67 : TI.ok Tryd.prog 67 ⟨.st [(3, 0), (41, 1)], some (.pair (.int .i64) (.sl (.int .u8))), 2, 32, [.int .i64 0, .slice none 0 0]⟩ := ⟨⟨by kernel_rfl, by kernel_rfl⟩, by kernel_rfl, by kernel_rfl, fun k h => by cases h; exact ⟨by kernel_rfl, by kernel_rfl, by kernel_rfl⟩⟩
theorem ty68 : TI.ok Tryd.prog 68 ⟨.st [(3, 0), (41, 1)], some (.pair (.int .i64) (.sl (.int .u8))), 2, 32, [.int .i64 0, .slice none 0 0]⟩ := ⟨⟨by kernel_rfl, by kernel_rfl⟩, by kernel_rfl, by kernel_rfl, fun k h => by cases h; exact ⟨by kernel_rfl, by kernel_rfl, by kernel_rfl⟩⟩
theorem ty70 : TI.ok Tryd.prog 70 ⟨.fn, none, 1, 8, [.nilFunc]⟩ := ⟨⟨_, _, _, rfl⟩, by kernel_rfl, by kernel_rfl, fun k h => by cases h⟩
theorem ty71 : TI.ok Tryd.prog 71 ⟨.sl 68, some (.sl (.pair (.int .i64) (.sl (.int .u8)))), 1, 24, [.slice none 0 0]⟩ := ⟨(by kernel_rfl : _ = _), by kernel_rfl, by kernel_rfl, fun k h => by cases h; exact ⟨by kernel_rfl, by kernel_rfl, by kernel_rfl⟩⟩
theorem ty73 : TI.ok Tryd.prog 73 ⟨.fn, none, 1, 8, [.nilFunc]⟩ := ⟨⟨_, _, _, rfl⟩, by kernel_rfl, by kernel_rfl, fun k h => by cases h⟩
theorem ty75 : TI.ok Tryd.prog 75 ⟨.fn, none, 1, 8, [.nilFunc]⟩ := ⟨⟨_, _, _, rfl⟩, by kernel_rfl, by kernel_rfl, fun k h => by cases h⟩
theorem ty76 : TI.ok Tryd.prog 76 ⟨.st [(3, 0), (41, 1)], some (.pair (.int .i64) (.sl (.int .u8))), 2, 32, [.int .i64 0, .slice none 0 0]⟩ := ⟨⟨by kernel_rfl, by kernel_rfl⟩, by kernel_rfl, by kernel_rfl, fun k h => by cases h; exact ⟨by kernel_rfl, by kernel_rfl, by kernel_rfl⟩⟩
theorem ty78 : TI.ok Tryd.prog 78 ⟨.fn, none, 1, 8, [.nilFunc]⟩ := ⟨⟨_, _, _, rfl⟩, by kernel_rfl, by kernel_rfl, fun k h => by cases h⟩
theorem ty79 : TI.ok Tryd.prog 79 ⟨.fn, none, 1, 8, [.nilFunc]⟩ := ⟨⟨_, _, _, rfl⟩, by kernel_rfl, by kernel_rfl, fun k h => by cases h⟩
theorem ty80 : TI.ok Tryd.prog 80 ⟨.sl 41, some (.sl (.sl (.int .u8))), 1, 24, [.slice none 0 0]⟩ := ⟨(by kernel_rfl : _ = _), by kernel_rfl, by kernel_rfl, fun k h => by cases h; exact ⟨by kernel_rfl, by kernel_rfl, by kernel_rfl⟩⟩
theorem ty82 : TI.ok Tryd.prog 82 ⟨.fn, none, 1, 8, [.nilFunc]⟩ := ⟨⟨_, _, _, rfl⟩, by kernel_rfl, by kernel_rfl, fun k h => by cases h⟩
theorem ty83 : TI.ok Tryd.prog 83 ⟨.fn, none, 1, 8, [.nilFunc]⟩ := ⟨⟨_, _, _, rfl⟩, by kernel_rfl, by kernel_rfl, fun k h => by cases h⟩
theorem ty84 : TI.ok Tryd.prog 84 ⟨.sl 3, some (.sl (.int .i64)), 1, 24, [.slice none 0 0]⟩ := ⟨(by kernel_rfl : _ = _), by kernel_rfl, by kernel_rfl, fun k h => by cases h; exact ⟨by kernel_rfl, by kernel_rfl, by kernel_rfl⟩⟩
theorem ty85 : TI.ok Tryd.prog 85 ⟨.fn, none, 1, 8, [.nilFunc]⟩ := ⟨⟨_, _, _, rfl⟩, by kernel_rfl, by kernel_rfl, fun k h => by cases h⟩
theorem ty86 : TI.ok Tryd.prog 86 ⟨.fn, none, 1, 8, [.nilFunc]⟩ := ⟨⟨_, _, _, rfl⟩, by kernel_rfl, by kernel_rfl, fun k h => by cases h⟩
theorem ty88 : TI.ok Tryd.prog 88 ⟨.fn, none, 1, 8, [.nilFunc]⟩ := ⟨⟨_, _, _, rfl⟩, by kernel_rfl, by kernel_rfl, fun k h => by cases h⟩
theorem ty89 : TI.ok Tryd.prog 89 ⟨.fn, none, 1, 8, [.nilFunc]⟩ := ⟨⟨_, _, _, rfl⟩, by kernel_rfl, by kernel_rfl, fun k h => by cases h⟩
theorem ty90 : TI.ok Tryd.prog 90 ⟨.fn, none, 1, 8, [.nilFunc]⟩ := ⟨⟨_, _, _, rfl⟩, by kernel_rfl, by kernel_rfl, fun k h => by cases h⟩
theorem ty91 : TI.ok Tryd.prog 91 ⟨.fn, none, 1, 8, [.nilFunc]⟩ := ⟨⟨_, _, _, rfl⟩, by kernel_rfl, by kernel_rfl, fun k h => by cases h⟩
theorem ty93 : TI.ok Tryd.prog 93 ⟨.fn, none, 1, 8, [.nilFunc]⟩ := ⟨⟨_, _, _, rfl⟩, by kernel_rfl, by kernel_rfl, fun k h => by cases h⟩
theorem ty94 : TI.ok Tryd.prog 94 ⟨.fn, none, 1, 8, [.nilFunc]⟩ := ⟨⟨_, _, _, rfl⟩, by kernel_rfl, by kernel_rfl, fun k h => by cases h⟩
theorem ty95 : TI.ok Tryd.prog 95 ⟨.fn, none, 1, 8, [.nilFunc]⟩ := ⟨⟨_, _, _, rfl⟩, by kernel_rfl, by kernel_rfl, fun k h => by cases h⟩
theorem ty96 : TI.ok Tryd.prog 96 ⟨.fn, none, 1, 8, [.nilFunc]⟩ := ⟨⟨_, _, _, rfl⟩, by kernel_rfl, by kernel_rfl, fun k h => by cases h⟩
theorem ty97 : TI.ok Tryd.prog 97 ⟨.fn, none, 1, 8, [.nilFunc]⟩ := ⟨⟨_, _, _, rfl⟩, by kernel_rfl, by kernel_rfl, fun k h => by cases h⟩
theorem ty99 : TI.ok Tryd.prog 99 ⟨.fn, none, 1, 8, [.nilFunc]⟩ := ⟨⟨_, _, _, rfl⟩, by kernel_rfl, by kernel_rfl, fun k h => by cases h⟩
theorem ty101 : TI.ok Tryd.prog 101 ⟨.fn, none, 1, 8, [.nilFunc]⟩ := ⟨⟨_, _, _, rfl⟩, by kernel_rfl, by kernel_rfl, fun k h => by cases h⟩
theorem ty102 : TI.ok Tryd.prog 102 ⟨.fn, none, 1, 8, [.nilFunc]⟩ := ⟨⟨_, _, _, rfl⟩, by kernel_rfl, by kernel_rfl, fun k h => by cases h⟩
theorem ty104 : TI.ok Tryd.prog 104 ⟨.fn, none, 1, 8, [.nilFunc]⟩ := ⟨⟨_, _, _, rfl⟩, by kernel_rfl, by kernel_rfl, fun k h => by cases h⟩
theorem ty105 : TI.ok Tryd.prog 105 ⟨.sl 76, some (.sl (.pair (.int .i64) (.sl (.int .u8)))), 1, 24, [.slice none 0 0]⟩ := ⟨(by kernel_rfl : _ = _), by kernel_rfl, by kernel_rfl, fun k h => by cases h; exact ⟨by kernel_rfl, by kernel_rfl, by kernel_rfl⟩⟩
theorem ty107 : TI.ok Tryd.prog 107 ⟨.fn, none, 1, 8, [.nilFunc]⟩ := ⟨⟨_, _, _, rfl⟩, by kernel_rfl, by kernel_rfl, fun k h => by cases h⟩
theorem ty108 : TI.ok Tryd.prog 108 ⟨.fn, none, 1, 8, [.nilFunc]⟩ := ⟨⟨_, _, _, rfl⟩, by kernel_rfl, by kernel_rfl, fun k h => by cases h⟩
theorem ty109 : TI.ok Tryd.prog 109 ⟨.fn, none, 1, 8, [.nilFunc]⟩ := ⟨⟨_, _, _, rfl⟩, by kernel_rfl, by kernel_rfl, fun k h => by cases h⟩
theorem ty110 : TI.ok Tryd.prog 110 ⟨.fn, none, 1, 8, [.nilFunc]⟩ := ⟨⟨_, _, _, rfl⟩, by kernel_rfl, by kernel_rfl, fun k h => by cases h⟩
theorem ty111 : TI.ok Tryd.prog 111 ⟨.fn, none, 1, 8, [.nilFunc]⟩ := ⟨⟨_, _, _, rfl⟩, by kernel_rfl, by kernel_rfl, fun k h => by cases h⟩
theorem ty112 : TI.ok Tryd.prog 112 ⟨.fn, none, 1, 8, [.nilFunc]⟩ := ⟨⟨_, _, _, rfl⟩, by kernel_rfl, by kernel_rfl, fun k h => by cases h⟩
theorem ty113 : TI.ok Tryd.prog 113 ⟨.fn, none, 1, 8, [.nilFunc]⟩ := ⟨⟨_, _, _, rfl⟩, by kernel_rfl, by kernel_rfl, fun k h => by cases h⟩
theorem ty114 : TI.ok Tryd.prog 114 ⟨.ptr 116, none, 1, 8, [.pointer none]⟩ := ⟨(by kernel_rfl : _ = _), by kernel_rfl, by kernel_rfl, fun k h => by cases h⟩
theorem ty115 : TI.ok Tryd.prog 115 ⟨.st [(114, 0), (41, 1)], none, 2, 32, [.pointer none, .slice none 0 0]⟩ := ⟨⟨by kernel_rfl, by kernel_rfl⟩, by kernel_rfl, by kernel_rfl, fun k h => by cases h⟩
theorem ty116 : TI.ok Tryd.prog 116 ⟨.st [(114, 0), (41, 1)], none, 2, 32, [.pointer none, .slice none 0 0]⟩ := ⟨⟨by kernel_rfl, by kernel_rfl⟩, by kernel_rfl, by kernel_rfl, fun k h => by cases h⟩
theorem ty117 : TI.ok Tryd.prog 117 ⟨.fn, none, 1, 8, [.nilFunc]⟩ := ⟨⟨_, _, _, rfl⟩, by kernel_rfl, by kernel_rfl, fun k h => by cases h⟩
theorem ty118 : TI.ok Tryd.prog 118 ⟨.ifc, none, 1, 16, [.nilIface]⟩ := ⟨⟨_, rfl⟩, by kernel_rfl, by kernel_rfl, fun k h => by cases h⟩
theorem ty119 : TI.ok Tryd.prog 119 ⟨.ifc, none, 1, 16, [.nilIface]⟩ := ⟨⟨_, rfl⟩, by kernel_rfl, by kernel_rfl, fun k h => by cases h⟩
theorem ty121 : TI.ok Tryd.prog 121 ⟨.fn, none, 1, 8, [.nilFunc]⟩ := ⟨⟨_, _, _, rfl⟩, by kernel_rfl, by kernel_rfl, fun k h => by cases h⟩
theorem ty122 : TI.ok Tryd.prog 122 ⟨.fn, none, 1, 8, [.nilFunc]⟩ := ⟨⟨_, _, _, rfl⟩, by kernel_rfl, by kernel_rfl, fun k h => by cases h⟩
theorem ty123 : TI.ok Tryd.prog 123 ⟨.fn, none, 1, 8, [.nilFunc]⟩ := ⟨⟨_, _, _, rfl⟩, by kernel_rfl, by kernel_rfl, fun k h => by cases h⟩
theorem ty124 : TI.ok Tryd.prog 124 ⟨.fn, none, 1, 8, [.nilFunc]⟩ := ⟨⟨_, _, _, rfl⟩, by kernel_rfl, by kernel_rfl, fun k h => by cases h⟩
theorem ty125 : TI.ok Tryd.prog 125 ⟨.fn, none, 1, 8, [.nilFunc]⟩ := ⟨⟨_, _, _, rfl⟩, by kernel_rfl, by kernel_rfl, fun k h => by cases h⟩
theorem ty127 : TI.ok Tryd.prog 127 ⟨.fn, none, 1, 8, [.nilFunc]⟩ := ⟨⟨_, _, _, rfl⟩, by kernel_rfl, by kernel_rfl, fun k h => by cases h⟩
theorem ty128 : TI.ok Tryd.prog 128 ⟨.fn, none, 1, 8, [.nilFunc]⟩ := ⟨⟨_, _, _, rfl⟩, by kernel_rfl, by kernel_rfl, fun k h => by cases h⟩
theorem ty129 : TI.ok Tryd.prog 129 ⟨.fn, none, 1, 8, [.nilFunc]⟩ := ⟨⟨_, _, _, rfl⟩, by kernel_rfl, by kernel_rfl, fun k h => by cases h⟩
theorem ty130 : TI.ok Tryd.prog 130 ⟨.st [(29, 0)], some (.pair (.int .i64) .unit), 1, 8, [.int .i64 0]⟩ := ⟨⟨by kernel_rfl, by kernel_rfl⟩, by kernel_rfl, by kernel_rfl, fun k h => by cases h; exact ⟨by kernel_rfl, by kernel_rfl, by kernel_rfl⟩⟩
theorem ty131 : TI.ok Tryd.prog 131 ⟨.st [(29, 0)], some (.pair (.int .i64) .unit), 1, 8, [.int .i64 0]⟩ := ⟨⟨by kernel_rfl, by kernel_rfl⟩, by kernel_rfl, by kernel_rfl, fun k h => by cases h; exact ⟨by kernel_rfl, by kernel_rfl, by kernel_rfl⟩⟩
theorem ty133 : TI.ok Tryd.prog 133 ⟨.fn, none, 1, 8, [.nilFunc]⟩ := ⟨⟨_, _, _, rfl⟩, by kernel_rfl, by kernel_rfl, fun k h => by cases h⟩
theorem ty134 : TI.ok Tryd.prog 134 ⟨.fn, none, 1, 8, [.nilFunc]⟩ := ⟨⟨_, _, _, rfl⟩, by kernel_rfl, by kernel_rfl, fun k h => by cases h⟩
theorem ty135 : TI.ok Tryd.prog 135 ⟨.fn, none, 1, 8, [.nilFunc]⟩ := ⟨⟨_, _, _, rfl⟩, by kernel_rfl, by kernel_rfl, fun k h => by cases h⟩
theorem ty137 : TI.ok Tryd.prog 137 ⟨.fn, none, 1, 8, [.nilFunc]⟩ := ⟨⟨_, _, _, rfl⟩, by kernel_rfl, by kernel_rfl, fun k h => by cases h⟩
theorem ty138 : TI.ok Tryd.prog 138 ⟨.fn, none, 1, 8, [.nilFunc]⟩ := ⟨⟨_, _, _, rfl⟩, by kernel_rfl, by kernel_rfl, fun k h => by cases h⟩
theorem ty139 : TI.ok Tryd.prog 139 ⟨.fn, none, 1, 8, [.nilFunc]⟩ := ⟨⟨_, _, _, rfl⟩, by kernel_rfl, by kernel_rfl, fun k h => by cases h⟩
theorem ty140 : TI.ok Tryd.prog 140 ⟨.ptr 5, none, 1, 8, [.pointer none]⟩ := ⟨(by kernel_rfl : _ = _), by kernel_rfl, by kernel_rfl, fun k h => by cases h⟩
theorem ty141 : TI.ok Tryd.prog 141 ⟨.fn, none, 1, 8, [.nilFunc]⟩ := ⟨⟨_, _, _, rfl⟩, by kernel_rfl, by kernel_rfl, fun k h => by cases h⟩
theorem ty142 : TI.ok Tryd.prog 142 ⟨.int .u64, some (.int .u64), 1, 8, [.int .u64 0]⟩ := ⟨(by kernel_rfl : _ = _), by kernel_rfl, by kernel_rfl, fun k h => by cases h; exact ⟨by kernel_rfl, by kernel_rfl, by kernel_rfl⟩⟩
theorem ty144 : TI.ok Tryd.prog 144 ⟨.fn, none, 1, 8, [.nilFunc]⟩ := ⟨⟨_, _, _, rfl⟩, by kernel_rfl, by kernel_rfl, fun k h => by cases h⟩
theorem ty146 : TI.ok Tryd.prog 146 ⟨.fn, none, 1, 8, [.nilFunc]⟩ := ⟨⟨_, _, _, rfl⟩, by kernel_rfl, by kernel_rfl, fun k h => by cases h⟩
theorem ty147 : TI.ok Tryd.prog 147 ⟨.fn, none, 1, 8, [.nilFunc]⟩ := ⟨⟨_, _, _, rfl⟩, by kernel_rfl, by kernel_rfl, fun k h => by cases h⟩
theorem ty149 : TI.ok Tryd.prog 149 ⟨.fn, none, 1, 8, [.nilFunc]⟩ := ⟨⟨_, _, _, rfl⟩, by kernel_rfl, by kernel_rfl, fun k h => by cases h⟩
theorem ty150 : TI.ok Tryd.prog 150 ⟨.int .u32, some (.int .u32), 1, 4, [.int .u32 0]⟩ := ⟨(by kernel_rfl : _ = _), by kernel_rfl, by kernel_rfl, fun k h => by cases h; exact ⟨by kernel_rfl, by kernel_rfl, by kernel_rfl⟩⟩
theorem ty152 : TI.ok Tryd.prog 152 ⟨.fn, none, 1, 8, [.nilFunc]⟩ := ⟨⟨_, _, _, rfl⟩, by kernel_rfl, by kernel_rfl, fun k h => by cases h⟩
theorem ty153 : TI.ok Tryd.prog 153 ⟨.fn, none, 1, 8, [.nilFunc]⟩ := ⟨⟨_, _, _, rfl⟩, by kernel_rfl, by kernel_rfl, fun k h => by cases h⟩
theorem ty154 : TI.ok Tryd.prog 154 ⟨.arr 256 5, none, 256, 256, List.replicate 256 (.int .u8 0)⟩ := ⟨(by kernel_rfl : _ = _), by kernel_rfl, by kernel_rfl, fun k h => by cases h⟩
theorem ty155 : TI.ok Tryd.prog 155 ⟨.st [(5, 0), (5, 1)], some (.pair (.int .u8) (.int .u8)), 2, 2, [.int .u8 0, .int .u8 0]⟩ := ⟨⟨by kernel_rfl, by kernel_rfl⟩, by kernel_rfl, by kernel_rfl, fun k h => by cases h; exact ⟨by kernel_rfl, by kernel_rfl, by kernel_rfl⟩⟩
theorem ty156 : TI.ok Tryd.prog 156 ⟨.st [(5, 0), (5, 1)], some (.pair (.int .u8) (.int .u8)), 2, 2, [.int .u8 0, .int .u8 0]⟩ := ⟨⟨by kernel_rfl, by kernel_rfl⟩, by kernel_rfl, by kernel_rfl, fun k h => by cases h; exact ⟨by kernel_rfl, by kernel_rfl, by kernel_rfl⟩⟩
theorem ty157 : TI.ok Tryd.prog 157 ⟨.arr 16 156, none, 32, 32, List.replicate 32 (.int .u8 0)⟩ := ⟨(by kernel_rfl : _ = _), by kernel_rfl, by kernel_rfl, fun k h => by cases h⟩
theorem ty158 : TI.ok Tryd.prog 158 ⟨.st [(17, 0), (17, 1), (17, 2), (9, 3)], none, 4, 40, [.pointer none, .pointer none, .pointer none, .string ⟨#[]⟩]⟩ := ⟨⟨by kernel_rfl, by kernel_rfl⟩, by kernel_rfl, by kernel_rfl, fun k h => by cases h⟩
theorem ty159 : TI.ok Tryd.prog 159 ⟨.st [(17, 0), (17, 1), (17, 2), (9, 3)], none, 4, 40, [.pointer none, .pointer none, .pointer none, .string ⟨#[]⟩]⟩ := ⟨⟨by kernel_rfl, by kernel_rfl⟩, by kernel_rfl, by kernel_rfl, fun k h => by cases h⟩
theorem ty160 : TI.ok Tryd.prog 160 ⟨.arr 0 16, none, 0, 0, []⟩ := ⟨(by kernel_rfl : _ = _), by kernel_rfl, by kernel_rfl, fun k h => by cases h⟩
theorem ty161 : TI.ok Tryd.prog 161 ⟨.st [(160, 0)], none, 0, 0, []⟩ := ⟨⟨by kernel_rfl, by kernel_rfl⟩, by kernel_rfl, by kernel_rfl, fun k h => by cases h⟩
theorem ty162 : TI.ok Tryd.prog 162 ⟨.st [(160, 0)], none, 0, 0, []⟩ := ⟨⟨by kernel_rfl, by kernel_rfl⟩, by kernel_rfl, by kernel_rfl, fun k h => by cases h⟩
theorem ty163 : TI.ok Tryd.prog 163 ⟨.fn, none, 1, 8, [.nilFunc]⟩ := ⟨⟨_, _, _, rfl⟩, by kernel_rfl, by kernel_rfl, fun k h => by cases h⟩
theorem ty164 : TI.ok Tryd.prog 164 ⟨.int .u8, some (.int .u8), 1, 1, [.int .u8 0]⟩ := ⟨(by kernel_rfl : _ = _), by kernel_rfl, by kernel_rfl, fun k h => by cases h; exact ⟨by kernel_rfl, by kernel_rfl, by kernel_rfl⟩⟩
theorem ty165 : TI.ok Tryd.prog 165 ⟨.int .u8, some (.int .u8), 1, 1, [.int .u8 0]⟩ := ⟨(by kernel_rfl : _ = _), by kernel_rfl, by kernel_rfl, fun k h => by cases h; exact ⟨by kernel_rfl, by kernel_rfl, by kernel_rfl⟩⟩
theorem ty166 : TI.ok Tryd.prog 166 ⟨.fn, none, 1, 8, [.nilFunc]⟩ := ⟨⟨_, _, _, rfl⟩, by kernel_rfl, by kernel_rfl, fun k h => by cases h⟩
theorem ty167 : TI.ok Tryd.prog 167 ⟨.int .i32, some (.int .i32), 1, 4, [.int .i32 0]⟩ := ⟨(by kernel_rfl : _ = _), by kernel_rfl, by kernel_rfl, fun k h => by cases h; exact ⟨by kernel_rfl, by kernel_rfl, by kernel_rfl⟩⟩
theorem ty168 : TI.ok Tryd.prog 168 ⟨.int .i32, some (.int .i32), 1, 4, [.int .i32 0]⟩ := ⟨(by kernel_rfl : _ = _), by kernel_rfl, by kernel_rfl, fun k h => by cases h; exact ⟨by kernel_rfl, by kernel_rfl, by kernel_rfl⟩⟩
theorem ty169 : TI.ok Tryd.prog 169 ⟨.st [(12, 0), (12, 1), (150, 2), (164, 3), (5, 4), (5, 5), (165, 6), (166, 7), (140, 8), (167, 9), (168, 10)], none, 11, 48, [.int .u64 0, .int .u64 0, .int .u32 0, .int .u8 0, .int .u8 0, .int .u8 0, .int .u8 0, .nilFunc, .pointer none, .int .i32 0, .int .i32 0]⟩ := ⟨⟨by kernel_rfl, by kernel_rfl⟩, by kernel_rfl, by kernel_rfl, fun k h => by cases h⟩
theorem ty170 : TI.ok Tryd.prog 170 ⟨.st [(12, 0), (12, 1), (150, 2), (164, 3), (5, 4), (5, 5), (165, 6), (166, 7), (140, 8), (167, 9), (168, 10)], none, 11, 48, [.int .u64 0, .int .u64 0, .int .u32 0, .int .u8 0, .int .u8 0, .int .u8 0, .int .u8 0, .nilFunc, .pointer none, .int .i32 0, .int .i32 0]⟩ := ⟨⟨by kernel_rfl, by kernel_rfl⟩, by kernel_rfl, by kernel_rfl, fun k h => by cases h⟩
theorem lookup_one {α : Type} {d i : Nat} {s x : α} {l : List (Nat × α)} (h : List.lookup i ((d, s) :: l) = some x) : (i = d ∧ x = s) ∨ l.lookup i = some x := by
  by_cases e : i = d
  · simp [e, List.lookup] at h; exact .inl ⟨e, h.symm⟩
  · have : (i == d) = false := by simp [e]
    simp only [List.lookup, this] at h; exact .inr h
noncomputable def ty : Ty := ⟨Tryd.prog, tys⟩
theorem tyOk : ty.Ok := by
  intro t i h
  change tys.lookup t = some i at h
  change i.ok Tryd.prog t
  unfold tys at h
  rcases lookup_one h with ⟨e, e'⟩ | h
  · rw [e, e']; exact ty1
  rcases lookup_one h with ⟨e, e'⟩ | h
  · rw [e, e']; exact ty2
  rcases lookup_one h with ⟨e, e'⟩ | h
  · rw [e, e']; exact ty3
  rcases lookup_one h with ⟨e, e'⟩ | h
  · rw [e, e']; exact ty4
  rcases lookup_one h with ⟨e, e'⟩ | h
  · rw [e, e']; exact ty5
  rcases lookup_one h with ⟨e, e'⟩ | h
  · rw [e, e']; exact ty6
  rcases lookup_one h with ⟨e, e'⟩ | h
  · rw [e, e']; exact ty7
  rcases lookup_one h with ⟨e, e'⟩ | h
  · rw [e, e']; exact ty8
  rcases lookup_one h with ⟨e, e'⟩ | h
  · rw [e, e']; exact ty9
  rcases lookup_one h with ⟨e, e'⟩ | h
  · rw [e, e']; exact ty10
  rcases lookup_one h with ⟨e, e'⟩ | h
  · rw [e, e']; exact ty11
  rcases lookup_one h with ⟨e, e'⟩ | h
  · rw [e, e']; exact ty12
  rcases lookup_one h with ⟨e, e'⟩ | h
  · rw [e, e']; exact ty13
  rcases lookup_one h with ⟨e, e'⟩ | h
  · rw [e, e']; exact ty14
  rcases lookup_one h with ⟨e, e'⟩ | h
  · rw [e, e']; exact ty15
  rcases lookup_one h with ⟨e, e'⟩ | h
  · rw [e, e']; exact ty16
  rcases lookup_one h with ⟨e, e'⟩ | h
  · rw [e, e']; exact ty17
  rcases lookup_one h with ⟨e, e'⟩ | h
  · rw [e, e']; exact ty18
  rcases lookup_one h with ⟨e, e'⟩ | h
  · rw [e, e']; exact ty19
  rcases lookup_one h with ⟨e, e'⟩ | h
  · rw [e, e']; exact ty20
  rcases lookup_one h with ⟨e, e'⟩ | h
  · rw [e, e']; exact ty21
  rcases lookup_one h with ⟨e, e'⟩ | h
  · rw [e, e']; exact ty22
  rcases lookup_one h with ⟨e, e'⟩ | h
  · rw [e, e']; exact ty23
  rcases lookup_one h with ⟨e, e'⟩ | h
  · rw [e, e']; exact ty24
  rcases lookup_one h with ⟨e, e'⟩ | h
  · rw [e, e']; exact ty25
  rcases lookup_one h with ⟨e, e'⟩ | h
  · rw [e, e']; exact ty26
  rcases lookup_one h with ⟨e, e'⟩ | h
  · rw [e, e']; exact ty27
  rcases lookup_one h with ⟨e, e'⟩ | h
  · rw [e, e']; exact ty28
  rcases lookup_one h with ⟨e, e'⟩ | h
  · rw [e, e']; exact ty29
  rcases lookup_one h with ⟨e, e'⟩ | h
  · rw [e, e']; exact ty31
  rcases lookup_one h with ⟨e, e'⟩ | h
  · rw [e, e']; exact ty33
  rcases lookup_one h with ⟨e, e'⟩ | h
  · rw [e, e']; exact ty34
  rcases lookup_one h with ⟨e, e'⟩ | h
  · rw [e, e']; exact ty35
  rcases lookup_one h with ⟨e, e'⟩ | h
  · rw [e, e']; exact ty36
  rcases lookup_one h with ⟨e, e'⟩ | h
  · rw [e, e']; exact ty37
  rcases lookup_one h with ⟨e, e'⟩ | h
  · rw [e, e']; exact ty38
  rcases lookup_one h with ⟨e, e'⟩ | h
  · rw [e, e']; exact ty39
  rcases lookup_one h with ⟨e, e'⟩ | h
  · rw [e, e']; exact ty40
  rcases lookup_one h with ⟨e, e'⟩ | h
  · rw [e, e']; exact ty41
  rcases lookup_one h with ⟨e, e'⟩ | h
  · rw [e, e']; exact ty42
  rcases lookup_one h with ⟨e, e'⟩ | h
  · rw [e, e']; exact ty43
  rcases lookup_one h with ⟨e, e'⟩ | h
  · rw [e, e']; exact ty44
  rcases lookup_one h with ⟨e, e'⟩ | h
  · rw [e, e']; exact ty46
  rcases lookup_one h with ⟨e, e'⟩ | h
  · rw [e, e']; exact ty48
  rcases lookup_one h with ⟨e, e'⟩ | h
  · rw [e, e']; exact ty50
  rcases lookup_one h with ⟨e, e'⟩ | h
  · rw [e, e']; exact ty52
  rcases lookup_one h with ⟨e, e'⟩ | h
  · rw [e, e']; exact ty53
  rcases lookup_one h with ⟨e, e'⟩ | h
  · rw [e, e']; exact ty54
  rcases lookup_one h with ⟨e, e'⟩ | h
  · rw [e, e']; exact ty55
  rcases lookup_one h with ⟨e, e'⟩ | h
  · rw [e, e']; exact ty56
  rcases lookup_one h with ⟨e, e'⟩ | h
  · rw [e, e']; exact ty57
  rcases lookup_one h with ⟨e, e'⟩ | h
  · rw [e, e']; exact ty58
  rcases lookup_one h with ⟨e, e'⟩ | h
  · rw [e, e']; exact ty60
  rcases lookup_one h with ⟨e, e'⟩ | h
  · rw [e, e']; exact ty62
  rcases lookup_one h with ⟨e, e'⟩ | h
  · rw [e, e']; exact ty63
  rcases lookup_one h with ⟨e, e'⟩ | h
  · rw [e, e']; exact ty64
  rcases lookup_one h with ⟨e, e'⟩ | h
  · rw [e, e']; exact ty65
  rcases lookup_one h with ⟨e, e'⟩ | h
  · rw [e, e']; exact ty66
  rcases lookup_one h with ⟨e, e'⟩ | h
  · rw [e, e']; exact ty67
  rcases lookup_one h with ⟨e, e'⟩ | h
  · rw [e, e']; exact ty68
  rcases lookup_one h with ⟨e, e'⟩ | h
  · rw [e, e']; exact ty70
  rcases lookup_one h with ⟨e, e'⟩ | h
  · rw [e, e']; exact ty71
  rcases lookup_one h with ⟨e, e'⟩ | h
  · rw [e, e']; exact ty73
  rcases lookup_one h with ⟨e, e'⟩ | h
  · rw [e, e']; exact ty75
  rcases lookup_one h with ⟨e, e'⟩ | h
  · rw [e, e']; exact ty76
  rcases lookup_one h with ⟨e, e'⟩ | h
  · rw [e, e']; exact ty78
  rcases lookup_one h with ⟨e, e'⟩ | h
  · rw [e, e']; exact ty79
  rcases lookup_one h with ⟨e, e'⟩ | h
  · rw [e, e']; exact ty80
  rcases lookup_one h with ⟨e, e'⟩ | h
  · rw [e, e']; exact ty82
  rcases lookup_one h with ⟨e, e'⟩ | h
  · rw [e, e']; exact ty83
  rcases lookup_one h with ⟨e, e'⟩ | h
  · rw [e, e']; exact ty84
  rcases lookup_one h with ⟨e, e'⟩ | h
  · rw [e, e']; exact ty85
  rcases lookup_one h with ⟨e, e'⟩ | h
  · rw [e, e']; exact ty86
  rcases lookup_one h with ⟨e, e'⟩ | h
  · rw [e, e']; exact ty88
  rcases lookup_one h with ⟨e, e'⟩ | h
  · rw [e, e']; exact ty89
  rcases lookup_one h with ⟨e, e'⟩ | h
  · rw [e, e']; exact ty90
  rcases lookup_one h with ⟨e, e'⟩ | h
  · rw [e, e']; exact ty91
  rcases lookup_one h with ⟨e, e'⟩ | h
  · rw [e, e']; exact ty93
  rcases lookup_one h with ⟨e, e'⟩ | h
  · rw [e, e']; exact ty94
  rcases lookup_one h with ⟨e, e'⟩ | h
  · rw [e, e']; exact ty95
  rcases lookup_one h with ⟨e, e'⟩ | h
  · rw [e, e']; exact ty96
  rcases lookup_one h with ⟨e, e'⟩ | h
  · rw [e, e']; exact ty97
  rcases lookup_one h with ⟨e, e'⟩ | h
  · rw [e, e']; exact ty99
  rcases lookup_one h with ⟨e, e'⟩ | h
  · rw [e, e']; exact ty101
  rcases lookup_one h with ⟨e, e'⟩ | h
  · rw [e, e']; exact ty102
  rcases lookup_one h with ⟨e, e'⟩ | h
  · rw [e, e']; exact ty104
  rcases lookup_one h with ⟨e, e'⟩ | h
  · rw [e, e']; exact ty105
  rcases lookup_one h with ⟨e, e'⟩ | h
  · rw [e, e']; exact ty107
  rcases lookup_one h with ⟨e, e'⟩ | h
  · rw [e, e']; exact ty108
  rcases lookup_one h with ⟨e, e'⟩ | h
  · rw [e, e']; exact ty109
  rcases lookup_one h with ⟨e, e'⟩ | h
  · rw [e, e']; exact ty110
  rcases lookup_one h with ⟨e, e'⟩ | h
  · rw [e, e']; exact ty111
  rcases lookup_one h with ⟨e, e'⟩ | h
  · rw [e, e']; exact ty112
  rcases lookup_one h with ⟨e, e'⟩ | h
  · rw [e, e']; exact ty113
  rcases lookup_one h with ⟨e, e'⟩ | h
  · rw [e, e']; exact ty114
  rcases lookup_one h with ⟨e, e'⟩ | h
  · rw [e, e']; exact ty115
  rcases lookup_one h with ⟨e, e'⟩ | h
  · rw [e, e']; exact ty116
  rcases lookup_one h with ⟨e, e'⟩ | h
  · rw [e, e']; exact ty117
  rcases lookup_one h with ⟨e, e'⟩ | h
  · rw [e, e']; exact ty118
  rcases lookup_one h with ⟨e, e'⟩ | h
  · rw [e, e']; exact ty119
  rcases lookup_one h with ⟨e, e'⟩ | h
  · rw [e, e']; exact ty121
  rcases lookup_one h with ⟨e, e'⟩ | h
  · rw [e, e']; exact ty122
  rcases lookup_one h with ⟨e, e'⟩ | h
  · rw [e, e']; exact ty123
  rcases lookup_one h with ⟨e, e'⟩ | h
  · rw [e, e']; exact ty124
  rcases lookup_one h with ⟨e, e'⟩ | h
  · rw [e, e']; exact ty125
  rcases lookup_one h with ⟨e, e'⟩ | h
  · rw [e, e']; exact ty127
  rcases lookup_one h with ⟨e, e'⟩ | h
  · rw [e, e']; exact ty128
  rcases lookup_one h with ⟨e, e'⟩ | h
  · rw [e, e']; exact ty129
  rcases lookup_one h with ⟨e, e'⟩ | h
  · rw [e, e']; exact ty130
  rcases lookup_one h with ⟨e, e'⟩ | h
  · rw [e, e']; exact ty131
  rcases lookup_one h with ⟨e, e'⟩ | h
  · rw [e, e']; exact ty133
  rcases lookup_one h with ⟨e, e'⟩ | h
  · rw [e, e']; exact ty134
  rcases lookup_one h with ⟨e, e'⟩ | h
  · rw [e, e']; exact ty135
  rcases lookup_one h with ⟨e, e'⟩ | h
  · rw [e, e']; exact ty137
  rcases lookup_one h with ⟨e, e'⟩ | h
  · rw [e, e']; exact ty138
  rcases lookup_one h with ⟨e, e'⟩ | h
  · rw [e, e']; exact ty139
  rcases lookup_one h with ⟨e, e'⟩ | h
  · rw [e, e']; exact ty140
  rcases lookup_one h with ⟨e, e'⟩ | h
  · rw [e, e']; exact ty141
  rcases lookup_one h with ⟨e, e'⟩ | h
  · rw [e, e']; exact ty142
  rcases lookup_one h with ⟨e, e'⟩ | h
  · rw [e, e']; exact ty144
  rcases lookup_one h with ⟨e, e'⟩ | h
  · rw [e, e']; exact ty146
  rcases lookup_one h with ⟨e, e'⟩ | h
  · rw [e, e']; exact ty147
  rcases lookup_one h with ⟨e, e'⟩ | h
  · rw [e, e']; exact ty149
  rcases lookup_one h with ⟨e, e'⟩ | h
  · rw [e, e']; exact ty150
  rcases lookup_one h with ⟨e, e'⟩ | h
  · rw [e, e']; exact ty152
  rcases lookup_one h with ⟨e, e'⟩ | h
  · rw [e, e']; exact ty153
  rcases lookup_one h with ⟨e, e'⟩ | h
  · rw [e, e']; exact ty154
  rcases lookup_one h with ⟨e, e'⟩ | h
  · rw [e, e']; exact ty155
  rcases lookup_one h with ⟨e, e'⟩ | h
  · rw [e, e']; exact ty156
  rcases lookup_one h with ⟨e, e'⟩ | h
  · rw [e, e']; exact ty157
  rcases lookup_one h with ⟨e, e'⟩ | h
  · rw [e, e']; exact ty158
  rcases lookup_one h with ⟨e, e'⟩ | h
  · rw [e, e']; exact ty159
  rcases lookup_one h with ⟨e, e'⟩ | h
  · rw [e, e']; exact ty160
  rcases lookup_one h with ⟨e, e'⟩ | h
  · rw [e, e']; exact ty161
  rcases lookup_one h with ⟨e, e'⟩ | h
  · rw [e, e']; exact ty162
  rcases lookup_one h with ⟨e, e'⟩ | h
  · rw [e, e']; exact ty163
  rcases lookup_one h with ⟨e, e'⟩ | h
  · rw [e, e']; exact ty164
  rcases lookup_one h with ⟨e, e'⟩ | h
  · rw [e, e']; exact ty165
  rcases lookup_one h with ⟨e, e'⟩ | h
  · rw [e, e']; exact ty166
  rcases lookup_one h with ⟨e, e'⟩ | h
  · rw [e, e']; exact ty167
  rcases lookup_one h with ⟨e, e'⟩ | h
  · rw [e, e']; exact ty168
  rcases lookup_one h with ⟨e, e'⟩ | h
  · rw [e, e']; exact ty169
  rcases lookup_one h with ⟨e, e'⟩ | h
  · rw [e, e']; exact ty170
  cases h
end Go.Proofs.YtcaekpbmmbfeiaaDoor

