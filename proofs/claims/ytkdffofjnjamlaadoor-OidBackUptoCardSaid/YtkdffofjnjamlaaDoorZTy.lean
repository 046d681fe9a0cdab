/- The types of the program, as the walk asks them. -/
import Derived.Test.YtkdffofjnjamlaaDoorProg
import Derived.Test.YtkdffofjnjamlaaDoorZV04
namespace Go.Proofs.YtkdffofjnjamlaaDoor
set_option maxRecDepth 100000
open Go Go.Vc Go.Proofs
def tys : List (Nat × TI) := [
  (1, ⟨.fn, none, 1, 8, [.nilFunc]⟩),
  (2, ⟨.int .i64, some (.int .i64), 1, 8, [.int .i64 0]⟩),
  (3, ⟨.int .i64, some (.int .i64), 1, 8, [.int .i64 0]⟩),
  (4, ⟨.bool, some .bool, 1, 1, [.bool false]⟩),
  (5, ⟨.int .u8, some (.int .u8), 1, 1, [.int .u8 0]⟩),
  (6, ⟨.int .u8, some (.int .u8), 1, 1, [.int .u8 0]⟩),
  (7, ⟨.st [(2, 0), (3, 1), (4, 2), (6, 3)], some (.pair (.int .i64) (.pair (.int .i64) (.pair .bool (.int .u8)))), 4, 24, [.int .i64 0, .int .i64 0, .bool false, .int .u8 0]⟩),
  (8, ⟨.st [(2, 0), (3, 1), (4, 2), (6, 3)], some (.pair (.int .i64) (.pair (.int .i64) (.pair .bool (.int .u8)))), 4, 24, [.int .i64 0, .int .i64 0, .bool false, .int .u8 0]⟩),
  (9, ⟨.str, some .str, 1, 16, [.string ⟨#[]⟩]⟩),
  (10, ⟨.str, some .str, 1, 16, [.string ⟨#[]⟩]⟩),
  (11, ⟨.str, some .str, 1, 16, [.string ⟨#[]⟩]⟩),
  (12, ⟨.int .u64, some (.int .u64), 1, 8, [.int .u64 0]⟩),
  (13, ⟨.st [(9, 0), (12, 1)], some (.pair .str (.int .u64)), 2, 24, [.string ⟨#[]⟩, .int .u64 0]⟩),
  (14, ⟨.st [(9, 0), (12, 1)], some (.pair .str (.int .u64)), 2, 24, [.string ⟨#[]⟩, .int .u64 0]⟩),
  (15, ⟨.ptr 120, none, 1, 8, [.pointer none]⟩),
  (16, ⟨.ptr 123, none, 1, 8, [.pointer none]⟩),
  (17, ⟨.ptr 131, none, 1, 8, [.pointer none]⟩),
  (18, ⟨.st [(17, 0)], none, 1, 8, [.pointer none]⟩),
  (19, ⟨.st [(17, 0)], none, 1, 8, [.pointer none]⟩),
  (20, ⟨.ifc, none, 1, 16, [.nilIface]⟩),
  (21, ⟨.int .i32, some (.int .i32), 1, 4, [.int .i32 0]⟩),
  (22, ⟨.sl 3, some (.sl (.int .i64)), 1, 24, [.slice none 0 0]⟩),
  (23, ⟨.fn, none, 1, 8, [.nilFunc]⟩),
  (24, ⟨.sl 5, some (.sl (.int .u8)), 1, 24, [.slice none 0 0]⟩),
  (25, ⟨.int .i64, some (.int .i64), 1, 8, [.int .i64 0]⟩),
  (27, ⟨.fn, none, 1, 8, [.nilFunc]⟩),
  (29, ⟨.fn, none, 1, 8, [.nilFunc]⟩),
  (31, ⟨.fn, none, 1, 8, [.nilFunc]⟩),
  (33, ⟨.fn, none, 1, 8, [.nilFunc]⟩),
  (34, ⟨.fn, none, 1, 8, [.nilFunc]⟩),
  (35, ⟨.fn, none, 1, 8, [.nilFunc]⟩),
  (36, ⟨.fn, none, 1, 8, [.nilFunc]⟩),
  (38, ⟨.fn, none, 1, 8, [.nilFunc]⟩),
  (40, ⟨.fn, none, 1, 8, [.nilFunc]⟩),
  (41, ⟨.fn, none, 1, 8, [.nilFunc]⟩),
  (42, ⟨.fn, none, 1, 8, [.nilFunc]⟩),
  (43, ⟨.fn, none, 1, 8, [.nilFunc]⟩),
  (44, ⟨.fn, none, 1, 8, [.nilFunc]⟩),
  (45, ⟨.fn, none, 1, 8, [.nilFunc]⟩),
  (46, ⟨.fn, none, 1, 8, [.nilFunc]⟩),
  (47, ⟨.fn, none, 1, 8, [.nilFunc]⟩),
  (48, ⟨.sl 9, some (.sl .str), 1, 24, [.slice none 0 0]⟩),
  (49, ⟨.fn, none, 1, 8, [.nilFunc]⟩),
  (50, ⟨.fn, none, 1, 8, [.nilFunc]⟩),
  (51, ⟨.fn, none, 1, 8, [.nilFunc]⟩),
  (52, ⟨.fn, none, 1, 8, [.nilFunc]⟩),
  (53, ⟨.fn, none, 1, 8, [.nilFunc]⟩),
  (54, ⟨.ifc, none, 1, 16, [.nilIface]⟩),
  (55, ⟨.ifc, none, 1, 16, [.nilIface]⟩),
  (57, ⟨.fn, none, 1, 8, [.nilFunc]⟩),
  (58, ⟨.st [(25, 0)], some (.pair (.int .i64) .unit), 1, 8, [.int .i64 0]⟩),
  (59, ⟨.st [(25, 0)], some (.pair (.int .i64) .unit), 1, 8, [.int .i64 0]⟩),
  (62, ⟨.fn, none, 1, 8, [.nilFunc]⟩),
  (63, ⟨.fn, none, 1, 8, [.nilFunc]⟩),
  (64, ⟨.ptr 66, none, 1, 8, [.pointer none]⟩),
  (65, ⟨.st [(64, 0), (24, 1)], none, 2, 32, [.pointer none, .slice none 0 0]⟩),
  (66, ⟨.st [(64, 0), (24, 1)], none, 2, 32, [.pointer none, .slice none 0 0]⟩),
  (67, ⟨.fn, none, 1, 8, [.nilFunc]⟩),
  (68, ⟨.fn, none, 1, 8, [.nilFunc]⟩),
  (69, ⟨.fn, none, 1, 8, [.nilFunc]⟩),
  (70, ⟨.fn, none, 1, 8, [.nilFunc]⟩),
  (71, ⟨.int .u64, some (.int .u64), 1, 8, [.int .u64 0]⟩),
  (72, ⟨.fn, none, 1, 8, [.nilFunc]⟩),
  (73, ⟨.fn, none, 1, 8, [.nilFunc]⟩),
  (74, ⟨.ptr 5, none, 1, 8, [.pointer none]⟩),
  (76, ⟨.fn, none, 1, 8, [.nilFunc]⟩),
  (77, ⟨.fn, none, 1, 8, [.nilFunc]⟩),
  (78, ⟨.int .i64, some (.int .i64), 1, 8, [.int .i64 0]⟩),
  (80, ⟨.fn, none, 1, 8, [.nilFunc]⟩),
  (81, ⟨.ptr 97, none, 1, 8, [.pointer none]⟩),
  (82, ⟨.fn, none, 1, 8, [.nilFunc]⟩),
  (83, ⟨.fn, none, 1, 8, [.nilFunc]⟩),
  (84, ⟨.fn, none, 1, 8, [.nilFunc]⟩),
  (85, ⟨.arr 24 5, none, 24, 24, List.replicate 24 (.int .u8 0)⟩),
  (86, ⟨.int .u64, some (.int .u64), 1, 8, [.int .u64 0]⟩),
  (87, ⟨.fn, none, 1, 8, [.nilFunc]⟩),
  (88, ⟨.fn, none, 1, 8, [.nilFunc]⟩),
  (90, ⟨.fn, none, 1, 8, [.nilFunc]⟩),
  (92, ⟨.fn, none, 1, 8, [.nilFunc]⟩),
  (94, ⟨.fn, none, 1, 8, [.nilFunc]⟩),
  (95, ⟨.fn, none, 1, 8, [.nilFunc]⟩),
  (96, ⟨.st [(9, 0), (9, 1), (55, 2)], none, 3, 48, [.string ⟨#[]⟩, .string ⟨#[]⟩, .nilIface]⟩),
  (97, ⟨.st [(9, 0), (9, 1), (55, 2)], none, 3, 48, [.string ⟨#[]⟩, .string ⟨#[]⟩, .nilIface]⟩),
  (98, ⟨.fn, none, 1, 8, [.nilFunc]⟩),
  (99, ⟨.fn, none, 1, 8, [.nilFunc]⟩),
  (100, ⟨.fn, none, 1, 8, [.nilFunc]⟩),
  (101, ⟨.arr 20 86, none, 20, 160, List.replicate 20 (.int .u64 0)⟩),
  (102, ⟨.int .u32, some (.int .u32), 1, 4, [.int .u32 0]⟩),
  (103, ⟨.arr 65 5, none, 65, 65, List.replicate 65 (.int .u8 0)⟩),
  (104, ⟨.fn, none, 1, 8, [.nilFunc]⟩),
  (105, ⟨.arr 256 5, none, 256, 256, List.replicate 256 (.int .u8 0)⟩),
  (106, ⟨.st [(5, 0), (5, 1)], some (.pair (.int .u8) (.int .u8)), 2, 2, [.int .u8 0, .int .u8 0]⟩),
  (107, ⟨.st [(5, 0), (5, 1)], some (.pair (.int .u8) (.int .u8)), 2, 2, [.int .u8 0, .int .u8 0]⟩),
  (108, ⟨.arr 16 107, none, 32, 32, List.replicate 32 (.int .u8 0)⟩),
  (109, ⟨.fn, none, 1, 8, [.nilFunc]⟩),
  (110, ⟨.fn, none, 1, 8, [.nilFunc]⟩),
  (111, ⟨.ptr 113, none, 1, 8, [.pointer none]⟩),
  (112, ⟨.st [(9, 0)], some (.pair .str .unit), 1, 16, [.string ⟨#[]⟩]⟩),
  (113, ⟨.st [(9, 0)], some (.pair .str .unit), 1, 16, [.string ⟨#[]⟩]⟩),
  (114, ⟨.fn, none, 1, 8, [.nilFunc]⟩),
  (116, ⟨.fn, none, 1, 8, [.nilFunc]⟩),
  (117, ⟨.arr 32 5, none, 32, 32, List.replicate 32 (.int .u8 0)⟩),
  (118, ⟨.arr 64 5, none, 64, 64, List.replicate 64 (.int .u8 0)⟩),
  (119, ⟨.st [(17, 0), (17, 1), (17, 2), (9, 3)], none, 4, 40, [.pointer none, .pointer none, .pointer none, .string ⟨#[]⟩]⟩),
  (120, ⟨.st [(17, 0), (17, 1), (17, 2), (9, 3)], none, 4, 40, [.pointer none, .pointer none, .pointer none, .string ⟨#[]⟩]⟩),
  (121, ⟨.arr 0 16, none, 0, 0, []⟩),
  (122, ⟨.st [(121, 0)], none, 0, 0, []⟩),
  (123, ⟨.st [(121, 0)], none, 0, 0, []⟩),
  (124, ⟨.fn, none, 1, 8, [.nilFunc]⟩),
  (125, ⟨.int .u8, some (.int .u8), 1, 1, [.int .u8 0]⟩),
  (126, ⟨.int .u8, some (.int .u8), 1, 1, [.int .u8 0]⟩),
  (127, ⟨.fn, none, 1, 8, [.nilFunc]⟩),
  (128, ⟨.int .i32, some (.int .i32), 1, 4, [.int .i32 0]⟩),
  (129, ⟨.int .i32, some (.int .i32), 1, 4, [.int .i32 0]⟩),
  (130, ⟨.st [(12, 0), (12, 1), (102, 2), (125, 3), (5, 4), (5, 5), (126, 6), (127, 7), (74, 8), (128, 9), (129, 10)], none, 11, 48, [.int .u64 0, .int .u64 0, .int .u32 0, .int .u8 0, .int .u8 0, .int .u8 0, .int .u8 0, .nilFunc, .pointer none, .int .i32 0, .int .i32 0]⟩),
  (131, ⟨.st [(12, 0), (12, 1), (102, 2), (125, 3), (5, 4), (5, 5), (126, 6), (127, 7), (74, 8), (128, 9), (129, 10)], none, 11, 48, [.int .u64 0, .int .u64 0, .int .u32 0, .int .u8 0, .int .u8 0, .int .u8 0, .int .u8 0, .nilFunc, .pointer none, .int .i32 0, .int .i32 0]⟩)]
theorem ty1 : TI.ok Tryd.prog 1 ⟨.fn, none, 1, 8, [.nilFunc]⟩ := ⟨⟨_, _, _, rfl⟩, by kernel_rfl, by kernel_rfl, fun k h => by cases h⟩
theorem ty2 : TI.ok Tryd.prog 2 ⟨.int .i64, some (.int .i64), 1, 8, [.int .i64 0]⟩ := ⟨(by kernel_rfl : _ = _), by kernel_rfl, by kernel_rfl, fun k h => by cases h; exact ⟨by kernel_rfl, by kernel_rfl, by kernel_rfl⟩⟩
theorem ty3 : TI.ok Tryd.prog 3 ⟨.int .i64, some (.int .i64), 1, 8, [.int .i64 0]⟩ := ⟨(by kernel_rfl : _ = _), by kernel_rfl, by kernel_rfl, fun k h => by cases h; exact ⟨by kernel_rfl, by kernel_rfl, by kernel_rfl⟩⟩
theorem ty4 : TI.ok Tryd.prog 4 ⟨.bool, some .bool, 1, 1, [.bool false]⟩ := ⟨(by kernel_rfl : _ = _), by kernel_rfl, by kernel_rfl, fun k h => by cases h; exact ⟨by kernel_rfl, by kernel_rfl, by kernel_rfl⟩⟩
theorem ty5 : TI.ok Tryd.prog 5 ⟨.int .u8, some (.int .u8), 1, 1, [.int .u8 0]⟩ := ⟨(by kernel_rfl : _ = _), by kernel_rfl, by kernel_rfl, fun k h => by cases h; exact ⟨by kernel_rfl, by kernel_rfl, by kernel_rfl⟩⟩
theorem ty6 : TI.ok Tryd.prog 6 ⟨.int .u8, some (.int .u8), 1, 1, [.int .u8 0]⟩ := ⟨(by kernel_rfl : _ = _), by kernel_rfl, by kernel_rfl, fun k h => by cases h; exact ⟨by kernel_rfl, by kernel_rfl, by kernel_rfl⟩⟩
theorem ty7 : TI.ok Tryd.prog 7 ⟨.st [(2, 0), (3, 1), (4, 2), (6, 3)], some (.pair (.int .i64) (.pair (.int .i64) (.pair .bool (.int .u8)))), 4, 24, [.int .i64 0, .int .i64 0, .bool false, .int .u8 0]⟩ := ⟨⟨by kernel_rfl, by kernel_rfl⟩, by kernel_rfl, by kernel_rfl, fun k h => by cases h; exact ⟨by kernel_rfl, by kernel_rfl, by kernel_rfl⟩⟩
theorem ty8 : TI.ok Tryd.prog 8 ⟨.st [(2, 0), (3, 1), (4, 2), (6, 3)], some (.pair (.int .i64) (.pair (.int .i64) (.pair .bool (.int .u8)))), 4, 24, [.int .i64 0, .int .i64 0, .bool false, .int .u8 0]⟩ := ⟨⟨by kernel_rfl, by kernel_rfl⟩, by kernel_rfl, by kernel_rfl, fun k h => by cases h; exact ⟨by kernel_rfl, by kernel_rfl, by kernel_rfl⟩⟩
theorem ty9 : TI.ok Tryd.prog 9 ⟨.str, some .str, 1, 16, [.string ⟨#[]⟩]⟩ := ⟨(by kernel_rfl : _ = _), by kernel_rfl, by kernel_rfl, fun k h => by cases h; exact ⟨by kernel_rfl, by kernel_rfl, by kernel_rfl⟩⟩
theorem ty10 : TI.ok Tryd.prog 10 ⟨.str, some .str, 1, 16, [.string ⟨#[]⟩]⟩ := ⟨(by kernel_rfl : _ = _), by kernel_rfl, by kernel_rfl, fun k h => by cases h; exact ⟨by kernel_rfl, by kernel_rfl, by kernel_rfl⟩⟩
theorem ty11 : TI.ok Tryd.prog 11 ⟨.str, some .str, 1, 16, [.string ⟨#[]⟩]⟩ := ⟨(by kernel_rfl : _ = _), by kernel_rfl, by kernel_rfl, fun k h => by cases h; exact ⟨by kernel_rfl, by kernel_rfl, by kernel_rfl⟩⟩
theorem ty12 : TI.ok Tryd.prog 12 ⟨.int .u64, some (.int .u64), 1, 8, [.int .u64 0]⟩ := ⟨(by kernel_rfl : _ = _), by kernel_rfl, by kernel_rfl, fun k h => by cases h; exact ⟨by kernel_rfl, by kernel_rfl, by kernel_rfl⟩⟩
theorem ty13 : TI.ok Tryd.prog 13 ⟨.st [(9, 0), (12, 1)], some (.pair .str (.int .u64)), 2, 24, [.string ⟨#[]⟩, .int .u64 0]⟩ := ⟨⟨by kernel_rfl, by kernel_rfl⟩, by kernel_rfl, by kernel_rfl, fun k h => by cases h; exact ⟨by kernel_rfl, by kernel_rfl, by kernel_rfl⟩⟩
theorem ty14 : TI.ok Tryd.prog 14 ⟨.st [(9, 0), (12, 1)], some (.pair .str (.int .u64)), 2, 24, [.string ⟨#[]⟩, .int .u64 0]⟩ := ⟨⟨by kernel_rfl, by kernel_rfl⟩, by kernel_rfl, by kernel_rfl, fun k h => by cases h; exact ⟨by kernel_rfl, by kernel_rfl, by kernel_rfl⟩⟩
theorem ty15 : TI.ok Tryd.prog 15 ⟨.ptr 120, none, 1, 8, [.pointer none]⟩ := ⟨(by kernel_rfl : _ = _), by kernel_rfl, by kernel_rfl, fun k h => by cases h⟩
theorem ty16 : TI.ok Tryd.prog 16 ⟨.ptr 123, none, 1, 8, [.pointer none]⟩ := ⟨(by kernel_rfl : _ = _), by kernel_rfl, by kernel_rfl, fun k h => by cases h⟩
theorem ty17 : TI.ok Tryd.prog 17 ⟨.ptr 131, none, 1, 8, [.pointer none]⟩ := ⟨(by kernel_rfl : _ = _), by kernel_rfl, by kernel_rfl, fun k h => by cases h⟩
theorem ty18 : TI.ok Tryd.prog 18 ⟨.st [(17, 0)], none, 1, 8, [.pointer none]⟩ := ⟨⟨by kernel_rfl, by kernel_rfl⟩, by kernel_rfl, by kernel_rfl, fun k h => by cases h⟩
theorem ty19 : TI.ok Tryd.prog 19 ⟨.st [(17, 0)], none, 1, 8, [.pointer none]⟩ := ⟨⟨by kernel_rfl, by kernel_rfl⟩, by kernel_rfl, by kernel_rfl, fun k h => by cases h⟩
theorem ty20 : TI.ok Tryd.prog 20 ⟨.ifc, none, 1, 16, [.nilIface]⟩ := ⟨⟨_, rfl⟩, by kernel_rfl, by kernel_rfl, fun k h => by cases h⟩
theorem ty21 : TI.ok Tryd.prog 21 ⟨.int .i32, some (.int .i32), 1, 4, [.int .i32 0]⟩ := ⟨(by kernel_rfl : _ = _), by kernel_rfl, by kernel_rfl, fun k h => by cases h; exact ⟨by kernel_rfl, by kernel_rfl, by kernel_rfl⟩⟩
theorem ty22 : TI.ok Tryd.prog 22 ⟨.sl 3, some (.sl (.int .i64)), 1, 24, [.slice none 0 0]⟩ := ⟨(by kernel_rfl : _ = _), by kernel_rfl, by kernel_rfl, fun k h => by cases h; exact ⟨by kernel_rfl, by kernel_rfl, by kernel_rfl⟩⟩
theorem ty23 : TI.ok Tryd.prog 23 ⟨.fn, none, 1, 8, [.nilFunc]⟩ := ⟨⟨_, _, _, rfl⟩, by kernel_rfl, by kernel_rfl, fun k h => by cases h⟩
theorem ty24 : TI.ok Tryd.prog 24 ⟨.sl 5, some (.sl (.int .u8)), 1, 24, [.slice none 0 0]⟩ := ⟨(by kernel_rfl : _ = _), by kernel_rfl, by kernel_rfl, fun k h => by cases h; exact ⟨by kernel_rfl, by kernel_rfl, by kernel_rfl⟩⟩
theorem ty25 : TI.ok Tryd.prog 25 ⟨.int .i64, some (.int .i64), 1, 8, [.int .i64 0]⟩ := ⟨(by kernel_rfl : _ = _), by kernel_rfl, by kernel_rfl, fun k h => by cases h; exact ⟨by kernel_rfl, by kernel_rfl, by kernel_rfl⟩⟩
theorem ty27 : TI.ok Tryd.prog 27 ⟨.fn, none, 1, 8, [.nilFunc]⟩ := ⟨⟨_, _, _, rfl⟩, by kernel_rfl, by kernel_rfl, fun k h => by cases h⟩
theorem ty29 : TI.ok Tryd.prog 29 ⟨.fn, none, 1, 8, [.nilFunc]⟩ := ⟨⟨_, _, _, rfl⟩, by kernel_rfl, by kernel_rfl, fun k h => by cases h⟩
theorem ty31 : TI.ok Tryd.prog 31 ⟨.fn, none, 1, 8, [.nilFunc]⟩ := ⟨⟨_, _, _, rfl⟩, by kernel_rfl, by kernel_rfl, fun k h => by cases h⟩
theorem ty33 : TI.ok Tryd.prog 33 ⟨.fn, none, 1, 8, [.nilFunc]⟩ := ⟨⟨_, _, _, rfl⟩, by kernel_rfl, by kernel_rfl, fun k h => by cases h⟩
theorem ty34 : TI.ok Tryd.prog 34 ⟨.fn, none, 1, 8, [.nilFunc]⟩ := ⟨⟨_, _, _, rfl⟩, by kernel_rfl, by kernel_rfl, fun k h => by cases h⟩
theorem ty35 : TI.ok Tryd.prog 35 ⟨.fn, none, 1, 8, [.nilFunc]⟩ := ⟨⟨_, _, _, rfl⟩, by kernel_rfl, by kernel_rfl, fun k h => by cases h⟩
theorem ty36 : TI.ok Tryd.prog 36 ⟨.fn, none, 1, 8, [.nilFunc]⟩ := ⟨⟨_, _, _, rfl⟩, by kernel_rfl, by kernel_rfl, fun k h => by cases h⟩
theorem ty38 : TI.ok Tryd.prog 38 ⟨.fn, none, 1, 8, [.nilFunc]⟩ := ⟨⟨_, _, _, rfl⟩, by kernel_rfl, by kernel_rfl, fun k h => by cases h⟩
theorem ty40 : TI.ok Tryd.prog 40 ⟨.fn, none, 1, 8, [.nilFunc]⟩ := ⟨⟨_, _, _, rfl⟩, by kernel_rfl, by kernel_rfl, fun k h => by cases h⟩
theorem ty41 : TI.ok Tryd.prog 41 ⟨.fn, none, 1, 8, [.nilFunc]⟩ := ⟨⟨_, _, _, rfl⟩, by kernel_rfl, by kernel_rfl, fun k h => by cases h⟩
theorem ty42 : TI.ok Tryd.prog 42 ⟨.fn, none, 1, 8, [.nilFunc]⟩ := ⟨⟨_, _, _, rfl⟩, by kernel_rfl, by kernel_rfl, fun k h => by cases h⟩
theorem ty43 : TI.ok Tryd.prog 43 ⟨.fn, none, 1, 8, [.nilFunc]⟩ := ⟨⟨_, _, _, rfl⟩, by kernel_rfl, by kernel_rfl, fun k h => by cases h⟩
theorem ty44 : TI.ok Tryd.prog 44 ⟨.fn, none, 1, 8, [.nilFunc]⟩ := ⟨⟨_, _, _, rfl⟩, by kernel_rfl, by kernel_rfl, fun k h => by cases h⟩
theorem ty45 : TI.ok Tryd.prog 45 ⟨.fn, none, 1, 8, [.nilFunc]⟩ := ⟨⟨_, _, _, rfl⟩, by kernel_rfl, by kernel_rfl, fun k h => by cases h⟩
theorem ty46 : TI.ok Tryd.prog 46 ⟨.fn, none, 1, 8, [.nilFunc]⟩ := ⟨⟨_, _, _, rfl⟩, by kernel_rfl, by kernel_rfl, fun k h => by cases h⟩
theorem ty47 : TI.ok Tryd.prog 47 ⟨.fn, none, 1, 8, [.nilFunc]⟩ := ⟨⟨_, _, _, rfl⟩, by kernel_rfl, by kernel_rfl, fun k h => by cases h⟩
theorem ty48 : TI.ok Tryd.prog 48 ⟨.sl 9, some (.sl .str), 1, 24, [.slice none 0 0]⟩ := ⟨(by kernel_rfl : _ = _), by kernel_rfl, by kernel_rfl, fun k h => by cases h; exact ⟨by kernel_rfl, by kernel_rfl, by kernel_rfl⟩⟩
theorem ty49 : TI.ok Tryd.prog 49 ⟨.fn, none, 1, 8, [.nilFunc]⟩ := ⟨⟨_, _, _, rfl⟩, by kernel_rfl, by kernel_rfl, fun k h => by cases h⟩
theorem ty50 : TI.ok Tryd.prog 50 ⟨.fn, none, 1, 8, [.nilFunc]⟩ := ⟨⟨_, _, _, rfl⟩, by kernel_rfl, by kernel_rfl, fun k h => by cases h⟩
theorem ty51 : TI.ok Tryd.prog 51 ⟨.fn, none, 1, 8, [.nilFunc]⟩ := ⟨⟨_, _, _, rfl⟩, by kernel_rfl, by kernel_rfl, fun k h => by cases h⟩
theorem ty52 : TI.ok Tryd.prog 52 ⟨.fn, none, 1, 8, [.nilFunc]⟩ := ⟨⟨_, _, _, rfl⟩, by kernel_rfl, by kernel_rfl, fun k h => by cases h⟩
theorem ty53 : TI.ok Tryd.prog 53 ⟨.fn, none, 1, 8, [.nilFunc]⟩ := ⟨⟨_, _, _, rfl⟩, by kernel_rfl, by kernel_rfl, fun k h => by cases h⟩
theorem ty54 : TI.ok Tryd.prog 54 ⟨.ifc, none, 1, 16, [.nilIface]⟩ := ⟨⟨_, rfl⟩, by kernel_rfl, by kernel_rfl, fun k h => by cases h⟩
theorem ty55 : TI.ok Tryd.prog 55 ⟨.ifc, none, 1, 16, [.nilIface]⟩ := ⟨⟨_, rfl⟩, by kernel_rfl, by kernel_rfl, fun k h => by cases h⟩
theorem ty57 : TI.ok Tryd.prog 57 ⟨.fn, none, 1, 8, [.nilFunc]⟩ := ⟨⟨_, _, _, rfl⟩, by kernel_rfl, by kernel_rfl, fun k h => by cases h⟩
theorem ty58 : TI.ok Tryd.prog 58 ⟨.st [(25, 0)], some (.pair (.int .i64) .unit), 1, 8, [.int .i64 0]⟩ := ⟨⟨by kernel_rfl, by kernel_rfl⟩, by kernel_rfl, by kernel_rfl, fun k h => by cases h; exact ⟨by kernel_rfl, by kernel_rfl, by kernel_rfl⟩⟩
theorem ty59 : TI.ok Tryd.prog 59 ⟨.st [(25, 0)], some (.pair (.int .i64) .unit), 1, 8, [.int .i64 0]⟩ := ⟨⟨by kernel_rfl, by kernel_rfl⟩, by kernel_rfl, by kernel_rfl, fun k h => by cases h; exact ⟨by kernel_rfl, by kernel_rfl, by kernel_rfl⟩⟩
theorem ty62 : TI.ok Tryd.prog 62 ⟨.fn, none, 1, 8, [.nilFunc]⟩ := ⟨⟨_, _, _, rfl⟩, by kernel_rfl, by kernel_rfl, fun k h => by cases h⟩
theorem ty63 : TI.ok Tryd.prog 63 ⟨.fn, none, 1, 8, [.nilFunc]⟩ := ⟨⟨_, _, _, rfl⟩, by kernel_rfl, by kernel_rfl, fun k h => by cases h⟩
theorem ty64 : TI.ok Tryd.prog 64 ⟨.ptr 66, none, 1, 8, [.pointer none]⟩ := ⟨(by kernel_rfl : _ = _), by kernel_rfl, by kernel_rfl, fun k h => by cases h⟩
theorem ty65 : TI.ok Tryd.prog 65 ⟨.st [(64, 0), (24, 1)], none, 2, 32, [.pointer none, .slice none 0 0]⟩ := ⟨⟨by kernel_rfl, by kernel_rfl⟩, by kernel_rfl, by kernel_rfl, fun k h => by cases h⟩
theorem ty66 : TI.ok Tryd.prog 66 ⟨.st [(64, 0), (24, 1)], none, 2, 32, [.pointer none, .slice none 0 0]⟩ := ⟨⟨by kernel_rfl, by kernel_rfl⟩, by kernel_rfl, by kernel_rfl, fun k h => by cases h⟩
theorem ty67 : TI.ok Tryd.prog 67 ⟨.fn, none, 1, 8, [.nilFunc]⟩ := ⟨⟨_, _, _, rfl⟩, by kernel_rfl, by kernel_rfl, fun k h => by cases h⟩
theorem ty68 : TI.ok Tryd.prog 68 ⟨.fn, none, 1, 8, [.nilFunc]⟩ := ⟨⟨_, _, _, rfl⟩, by kernel_rfl, by kernel_rfl, fun k h => by cases h⟩
theorem ty69 : TI.ok Tryd.prog 69 ⟨.fn, none, 1, 8, [.nilFunc]⟩ := ⟨⟨_, _, _, rfl⟩, by kernel_rfl, by kernel_rfl, fun k h => by cases h⟩
theorem ty70 : TI.ok Tryd.prog 70 ⟨.fn, none, 1, 8, [.nilFunc]⟩ := ⟨⟨_, _, _, rfl⟩, by kernel_rfl, by kernel_rfl, fun k h => by cases h⟩
theorem ty71 : TI.ok Tryd.prog 71 ⟨.int .u64, some (.int .u64), 1, 8, [.int .u64 0]⟩ := ⟨(by kernel_rfl : _ = _), by kernel_rfl, by kernel_rfl, fun k h => by cases h; exact ⟨by kernel_rfl, by kernel_rfl, by kernel_rfl⟩⟩
theorem ty72 : TI.ok Tryd.prog 72 ⟨.fn, none, 1, 8, [.nilFunc]⟩ := ⟨⟨_, _, _, rfl⟩, by kernel_rfl, by kernel_rfl, fun k h => by cases h⟩
theorem ty73 : TI.ok Tryd.prog 73 ⟨.fn, none, 1, 8, [.nilFunc]⟩ := ⟨⟨_, _, _, rfl⟩, by kernel_rfl, by kernel_rfl, fun k h => by cases h⟩
theorem ty74 : TI.ok Tryd.prog 74 ⟨.ptr 5, none, 1, 8, [.pointer none]⟩ := ⟨(by kernel_rfl : _ = _), by kernel_rfl, by kernel_rfl, fun k h => by cases h⟩
theorem ty76 : TI.ok Tryd.prog 76 ⟨.fn, none, 1, 8, [.nilFunc]⟩ := ⟨⟨_, _, _, rfl⟩, by kernel_rfl, by kernel_rfl, fun k h => by cases h⟩
theorem ty77 : TI.ok Tryd.prog 77 ⟨.fn, none, 1, 8, [.nilFunc]⟩ := ⟨⟨_, _, _, rfl⟩, by kernel_rfl, by kernel_rfl, fun k h => by cases h⟩
theorem ty78 : TI.ok Tryd.prog 78 ⟨.int .i64, some (.int .i64), 1, 8, [.int .i64 0]⟩ := ⟨(by kernel_rfl : _ = _), by kernel_rfl, by kernel_rfl, fun k h => by cases h; exact ⟨by kernel_rfl, by kernel_rfl, by kernel_rfl⟩⟩
theorem ty80 : TI.ok Tryd.prog 80 ⟨.fn, none, 1, 8, [.nilFunc]⟩ := ⟨⟨_, _, _, rfl⟩, by kernel_rfl, by kernel_rfl, fun k h => by cases h⟩
theorem ty81 : TI.ok Tryd.prog 81 ⟨.ptr 97, none, 1, 8, [.pointer none]⟩ := ⟨(by kernel_rfl : _ = _), by kernel_rfl, by kernel_rfl, fun k h => by cases h⟩
theorem ty82 : TI.ok Tryd.prog 82 ⟨.fn, none, 1, 8, [.nilFunc]⟩ := ⟨⟨_, _, _, rfl⟩, by kernel_rfl, by kernel_rfl, fun k h => by cases h⟩
theorem ty83 : TI.ok Tryd.prog 83 ⟨.fn, none, 1, 8, [.nilFunc]⟩ := ⟨⟨_, _, _, rfl⟩, by kernel_rfl, by kernel_rfl, fun k h => by cases h⟩
theorem ty84 : TI.ok Tryd.prog 84 ⟨.fn, none, 1, 8, [.nilFunc]⟩ := ⟨⟨_, _, _, rfl⟩, by kernel_rfl, by kernel_rfl, fun k h => by cases h⟩
theorem ty85 : TI.ok Tryd.prog 85 ⟨.arr 24 5, none, 24, 24, List.replicate 24 (.int .u8 0)⟩ := ⟨(by kernel_rfl : _ = _), by kernel_rfl, by kernel_rfl, fun k h => by cases h⟩
theorem ty86 : TI.ok Tryd.prog 86 ⟨.int .u64, some (.int .u64), 1, 8, [.int .u64 0]⟩ := ⟨(by kernel_rfl : _ = _), by kernel_rfl, by kernel_rfl, fun k h => by cases h; exact ⟨by kernel_rfl, by kernel_rfl, by kernel_rfl⟩⟩
theorem ty87 : TI.ok Tryd.prog 87 ⟨.fn, none, 1, 8, [.nilFunc]⟩ := ⟨⟨_, _, _, rfl⟩, by kernel_rfl, by kernel_rfl, fun k h => by cases h⟩
theorem ty88 : TI.ok Tryd.prog 88 ⟨.fn, none, 1, 8, [.nilFunc]⟩ := ⟨⟨_, _, _, rfl⟩, by kernel_rfl, by kernel_rfl, fun k h => by cases h⟩
theorem ty90 : TI.ok Tryd.prog 90 ⟨.fn, none, 1, 8, [.nilFunc]⟩ := ⟨⟨_, _, _, rfl⟩, by kernel_rfl, by kernel_rfl, fun k h => by cases h⟩
theorem ty92 : TI.ok Tryd.prog 92 ⟨.fn, none, 1, 8, [.nilFunc]⟩ := ⟨⟨_, _, _, rfl⟩, by kernel_rfl, by kernel_rfl, fun k h => by cases h⟩
theorem ty94 : TI.ok Tryd.prog 94 ⟨.fn, none, 1, 8, [.nilFunc]⟩ := ⟨⟨_, _, _, rfl⟩, by kernel_rfl, by kernel_rfl, fun k h => by cases h⟩
theorem ty95 : TI.ok Tryd.prog 95 ⟨.fn, none, 1, 8, [.nilFunc]⟩ := ⟨⟨_, _, _, rfl⟩, by kernel_rfl, by kernel_rfl, fun k h => by cases h⟩
theorem ty96 : TI.ok Tryd.prog 96 ⟨.st [(9, 0), (9, 1), (55, 2)], none, 3, 48, [.string ⟨#[]⟩, .string ⟨#[]⟩, .nilIface]⟩ := ⟨⟨by kernel_rfl, by kernel_rfl⟩, by kernel_rfl, by kernel_rfl, fun k h => by cases h⟩
theorem ty97 : TI.ok Tryd.prog 97 ⟨.st [(9, 0), (9, 1), (55, 2)], none, 3, 48, [.string ⟨#[]⟩, .string ⟨#[]⟩, .nilIface]⟩ := ⟨⟨by kernel_rfl, by kernel_rfl⟩, by kernel_rfl, by kernel_rfl, fun k h => by cases h⟩
theorem ty98 : TI.ok Tryd.prog 98 ⟨.fn, none, 1, 8, [.nilFunc]⟩ := ⟨⟨_, _, _, rfl⟩, by kernel_rfl, by kernel_rfl, fun k h => by cases h⟩
theorem ty99 : TI.ok Tryd.prog 99 ⟨.fn, none, 1, 8, [.nilFunc]⟩ := ⟨⟨_, _, _, rfl⟩, by kernel_rfl, by kernel_rfl, fun k h => by cases h⟩
theorem ty100 : TI.ok Tryd.prog 100 ⟨.fn, none, 1, 8, [.nilFunc]⟩ := ⟨⟨_, _, _, rfl⟩, by kernel_rfl, by kernel_rfl, fun k h => by cases h⟩
theorem ty101 : TI.ok Tryd.prog 101 ⟨.arr 20 86, none, 20, 160, List.replicate 20 (.int .u64 0)⟩ := ⟨(by kernel_rfl : _ = _), by kernel_rfl, by kernel_rfl, fun k h => by cases h⟩
theorem ty102 : TI.ok Tryd.prog 102 ⟨.int .u32, some (.int .u32), 1, 4, [.int .u32 0]⟩ := ⟨(by kernel_rfl : _ = _), by kernel_rfl, by kernel_rfl, fun k h => by cases h; exact ⟨by kernel_rfl, by kernel_rfl, by kernel_rfl⟩⟩
theorem ty103 : TI.ok Tryd.prog 103 ⟨.arr 65 5, none, 65, 65, List.replicate 65 (.int .u8 0)⟩ := ⟨(by kernel_rfl : _ = _), by kernel_rfl, by kernel_rfl, fun k h => by cases h⟩
theorem ty104 : TI.ok Tryd.prog 104 ⟨.fn, none, 1, 8, [.nilFunc]⟩ := ⟨⟨_, _, _, rfl⟩, by kernel_rfl, by kernel_rfl, fun k h => by cases h⟩
theorem ty105 : TI.ok Tryd.prog 105 ⟨.arr 256 5, none, 256, 256, List.replicate 256 (.int .u8 0)⟩ := ⟨(by kernel_rfl : _ = _), by kernel_rfl, by kernel_rfl, fun k h => by cases h⟩
theorem ty106 : TI.ok Tryd.prog 106 ⟨.st [(5, 0), (5, 1)], some (.pair (.int .u8) (.int .u8)), 2, 2, [.int .u8 0, .int .u8 0]⟩ := ⟨⟨by kernel_rfl, by kernel_rfl⟩, by kernel_rfl, by kernel_rfl, fun k h => by cases h; exact ⟨by kernel_rfl, by kernel_rfl, by kernel_rfl⟩⟩
theorem ty107 : TI.ok Tryd.prog 107 ⟨.st [(5, 0), (5, 1)], some (.pair (.int .u8) (.int .u8)), 2, 2, [.int .u8 0, .int .u8 0]⟩ := ⟨⟨by kernel_rfl, by kernel_rfl⟩, by kernel_rfl, by kernel_rfl, fun k h => by cases h; exact ⟨by kernel_rfl, by kernel_rfl, by kernel_rfl⟩⟩
theorem ty108 : TI.ok Tryd.prog 108 ⟨.arr 16 107, none, 32, 32, List.replicate 32 (.int .u8 0)⟩ := ⟨(by kernel_rfl : _ = _), by kernel_rfl, by kernel_rfl, fun k h => by cases h⟩
theorem ty109 : TI.ok Tryd.prog 109 ⟨.fn, none, 1, 8, [.nilFunc]⟩ := ⟨⟨_, _, _, rfl⟩, by kernel_rfl, by kernel_rfl, fun k h => by cases h⟩
theorem ty110 : TI.ok Tryd.prog 110 ⟨.fn, none, 1, 8, [.nilFunc]⟩ := ⟨⟨_, _, _, rfl⟩, by kernel_rfl, by kernel_rfl, fun k h => by cases h⟩
theorem ty111 : TI.ok Tryd.prog 111 ⟨.ptr 113, none, 1, 8, [.pointer none]⟩ := ⟨(by kernel_rfl : _ = _), by kernel_rfl, by kernel_rfl, fun k h => by cases h⟩
theorem ty112 : TI.ok Tryd.prog 112 ⟨.st [(9, 0)], some (.pair .str .unit), 1, 16, [.string ⟨#[]⟩]⟩ := ⟨⟨by kernel_rfl, by kernel_rfl⟩, by kernel_rfl, by kernel_rfl, fun k h => by cases h; exact ⟨by kernel_rfl, by kernel_rfl, by kernel_rfl⟩⟩
theorem ty113 : TI.ok Tryd.prog 113 ⟨.st [(9, 0)], some (.pair .str .unit), 1, 16, [.string ⟨#[]⟩]⟩ := ⟨⟨by kernel_rfl, by kernel_rfl⟩, by kernel_rfl, by kernel_rfl, fun k h => by cases h; exact ⟨by kernel_rfl, by kernel_rfl, by kernel_rfl⟩⟩
theorem ty114 : TI.ok Tryd.prog 114 ⟨.fn, none, 1, 8, [.nilFunc]⟩ := ⟨⟨_, _, _, rfl⟩, by kernel_rfl, by kernel_rfl, fun k h => by cases h⟩
theorem ty116 : TI.ok Tryd.prog 116 ⟨.fn, none, 1, 8, [.nilFunc]⟩ := ⟨⟨_, _, _, rfl⟩, by kernel_rfl, by kernel_rfl, fun k h => by cases h⟩
theorem ty117 : TI.ok Tryd.prog 117 ⟨.arr 32 5, none, 32, 32, List.replicate 32 (.int .u8 0)⟩ := ⟨(by kernel_rfl : _ = _), by kernel_rfl, by kernel_rfl, fun k h => by cases h⟩
theorem ty118 : TI.ok Tryd.prog 118 ⟨.arr 64 5, none, 64, 64, List.replicate 64 (.int .u8 0)⟩ := ⟨(by kernel_rfl : _ = _), by kernel_rfl, by kernel_rfl, fun k h => by cases h⟩
theorem ty119 : TI.ok Tryd.prog 119 ⟨.st [(17, 0), (17, 1), (17, 2), (9, 3)], none, 4, 40, [.pointer none, .pointer none, .pointer none, .string ⟨#[]⟩]⟩ := ⟨⟨by kernel_rfl, by kernel_rfl⟩, by kernel_rfl, by kernel_rfl, fun k h => by cases h⟩
theorem ty120 : TI.ok Tryd.prog 120 ⟨.st [(17, 0), (17, 1), (17, 2), (9, 3)], none, 4, 40, [.pointer none, .pointer none, .pointer none, .string ⟨#[]⟩]⟩ := ⟨⟨by kernel_rfl, by kernel_rfl⟩, by kernel_rfl, by kernel_rfl, fun k h => by cases h⟩
theorem ty121 : TI.ok Tryd.prog 121 ⟨.arr 0 16, none, 0, 0, []⟩ := ⟨(by kernel_rfl : _ = _), by kernel_rfl, by kernel_rfl, fun k h => by cases h⟩
theorem ty122 : TI.ok Tryd.prog 122 ⟨.st [(121, 0)], none, 0, 0, []⟩ := ⟨⟨by kernel_rfl, by kernel_rfl⟩, by kernel_rfl, by kernel_rfl, fun k h => by cases h⟩
theorem ty123 : TI.ok Tryd.prog 123 ⟨.st [(121, 0)], none, 0, 0, []⟩ := ⟨⟨by kernel_rfl, by kernel_rfl⟩, by kernel_rfl, by kernel_rfl, fun k h => by cases h⟩
theorem ty124 : TI.ok Tryd.prog 124 ⟨.fn, none, 1, 8, [.nilFunc]⟩ := ⟨⟨_, _, _, rfl⟩, by kernel_rfl, by kernel_rfl, fun k h => by cases h⟩
theorem ty125 : TI.ok Tryd.prog 125 ⟨.int .u8, some (.int .u8), 1, 1, [.int .u8 0]⟩ := ⟨(by kernel_rfl : _ = _), by kernel_rfl, by kernel_rfl, fun k h => by cases h; exact ⟨by kernel_rfl, by kernel_rfl, by kernel_rfl⟩⟩
theorem ty126 : TI.ok Tryd.prog 126 ⟨.int .u8, some (.int .u8), 1, 1, [.int .u8 0]⟩ := ⟨(by kernel_rfl : _ = _), by kernel_rfl, by kernel_rfl, fun k h => by cases h; exact ⟨by kernel_rfl, by kernel_rfl, by kernel_rfl⟩⟩
theorem ty127 : TI.ok Tryd.prog 127 ⟨.fn, none, 1, 8, [.nilFunc]⟩ := ⟨⟨_, _, _, rfl⟩, by kernel_rfl, by kernel_rfl, fun k h => by cases h⟩
theorem ty128 : TI.ok Tryd.prog 128 ⟨.int .i32, some (.int .i32), 1, 4, [.int .i32 0]⟩ := ⟨(by kernel_rfl : _ = _), by kernel_rfl, by kernel_rfl, fun k h => by cases h; exact ⟨by kernel_rfl, by kernel_rfl, by kernel_rfl⟩⟩
theorem ty129 : TI.ok Tryd.prog 129 ⟨.int .i32, some (.int .i32), 1, 4, [.int .i32 0]⟩ := ⟨(by kernel_rfl : _ = _), by kernel_rfl, by kernel_rfl, fun k h => by cases h; exact ⟨by kernel_rfl, by kernel_rfl, by kernel_rfl⟩⟩
theorem ty130 : TI.ok Tryd.prog 130 ⟨.st [(12, 0), (12, 1), (102, 2), (125, 3), (5, 4), (5, 5), (126, 6), (127, 7), (74, 8), (128, 9), (129, 10)], none, 11, 48, [.int .u64 0, .int .u64 0, .int .u32 0, .int .u8 0, .int .u8 0, .int .u8 0, .int .u8 0, .nilFunc, .pointer none, .int .i32 0, .int .i32 0]⟩ := ⟨⟨by kernel_rfl, by kernel_rfl⟩, by kernel_rfl, by kernel_rfl, fun k h => by cases h⟩
theorem ty131 : TI.ok Tryd.prog 131 ⟨.st [(12, 0), (12, 1), (102, 2), (125, 3), (5, 4), (5, 5), (126, 6), (127, 7), (74, 8), (128, 9), (129, 10)], none, 11, 48, [.int .u64 0, .int .u64 0, .int .u32 0, .int .u8 0, .int .u8 0, .int .u8 0, .int .u8 0, .nilFunc, .pointer none, .int .i32 0, .int .i32 0]⟩ := ⟨⟨by kernel_rfl, by kernel_rfl⟩, by kernel_rfl, by kernel_rfl, fun k h => by cases h⟩
theorem lookup_one {α : Type} {d i : Nat} {s x : α} {l : List (Nat × α)} (h : List.lookup i ((d, s) :: l) = some x) : (i = d ∧ x = s) ∨ l.lookup i = some x := by
  by_cases e : i = d
  · simp [e, List.lookup] at h; exact .inl ⟨e, h.symm⟩
  · have : (i == d) = false := by simp [e]
    simp only [List.lookup, this] at h; exact .inr h
noncomputable def ty : Ty := ⟨Tryd.prog, tys⟩
theorem tyOk : ty.Ok := by
  intro t i h
  change tys.lookup t = some i at h
  change i.ok Tryd.prog t
  unfold tys at h
  rcases lookup_one h with ⟨e, e'⟩ | h
  · rw [e, e']; exact ty1
  rcases lookup_one h with ⟨e, e'⟩ | h
  · rw [e, e']; exact ty2
  rcases lookup_one h with ⟨e, e'⟩ | h
  · rw [e, e']; exact ty3
  rcases lookup_one h with ⟨e, e'⟩ | h
  · rw [e, e']; exact ty4
  rcases lookup_one h with ⟨e, e'⟩ | h
  · rw [e, e']; exact ty5
  rcases lookup_one h with ⟨e, e'⟩ | h
  · rw [e, e']; exact ty6
  rcases lookup_one h with ⟨e, e'⟩ | h
  · rw [e, e']; exact ty7
  rcases lookup_one h with ⟨e, e'⟩ | h
  · rw [e, e']; exact ty8
  rcases lookup_one h with ⟨e, e'⟩ | h
  · rw [e, e']; exact ty9
  rcases lookup_one h with ⟨e, e'⟩ | h
  · rw [e, e']; exact ty10
  rcases lookup_one h with ⟨e, e'⟩ | h
  · rw [e, e']; exact ty11
  rcases lookup_one h with ⟨e, e'⟩ | h
  · rw [e, e']; exact ty12
  rcases lookup_one h with ⟨e, e'⟩ | h
  · rw [e, e']; exact ty13
  rcases lookup_one h with ⟨e, e'⟩ | h
  · rw [e, e']; exact ty14
  rcases lookup_one h with ⟨e, e'⟩ | h
  · rw [e, e']; exact ty15
  rcases lookup_one h with ⟨e, e'⟩ | h
  · rw [e, e']; exact ty16
  rcases lookup_one h with ⟨e, e'⟩ | h
  · rw [e, e']; exact ty17
  rcases lookup_one h with ⟨e, e'⟩ | h
  · rw [e, e']; exact ty18
  rcases lookup_one h with ⟨e, e'⟩ | h
  · rw [e, e']; exact ty19
  rcases lookup_one h with ⟨e, e'⟩ | h
  · rw [e, e']; exact ty20
  rcases lookup_one h with ⟨e, e'⟩ | h
  · rw [e, e']; exact ty21
  rcases lookup_one h with ⟨e, e'⟩ | h
  · rw [e, e']; exact ty22
  rcases lookup_one h with ⟨e, e'⟩ | h
  · rw [e, e']; exact ty23
  rcases lookup_one h with ⟨e, e'⟩ | h
  · rw [e, e']; exact ty24
  rcases lookup_one h with ⟨e, e'⟩ | h
  · rw [e, e']; exact ty25
  rcases lookup_one h with ⟨e, e'⟩ | h
  · rw [e, e']; exact ty27
  rcases lookup_one h with ⟨e, e'⟩ | h
  · rw [e, e']; exact ty29
  rcases lookup_one h with ⟨e, e'⟩ | h
  · rw [e, e']; exact ty31
  rcases lookup_one h with ⟨e, e'⟩ | h
  · rw [e, e']; exact ty33
  rcases lookup_one h with ⟨e, e'⟩ | h
  · rw [e, e']; exact ty34
  rcases lookup_one h with ⟨e, e'⟩ | h
  · rw [e, e']; exact ty35
  rcases lookup_one h with ⟨e, e'⟩ | h
  · rw [e, e']; exact ty36
  rcases lookup_one h with ⟨e, e'⟩ | h
  · rw [e, e']; exact ty38
  rcases lookup_one h with ⟨e, e'⟩ | h
  · rw [e, e']; exact ty40
  rcases lookup_one h with ⟨e, e'⟩ | h
  · rw [e, e']; exact ty41
  rcases lookup_one h with ⟨e, e'⟩ | h
  · rw [e, e']; exact ty42
  rcases lookup_one h with ⟨e, e'⟩ | h
  · rw [e, e']; exact ty43
  rcases lookup_one h with ⟨e, e'⟩ | h
  · rw [e, e']; exact ty44
  rcases lookup_one h with ⟨e, e'⟩ | h
  · rw [e, e']; exact ty45
  rcases lookup_one h with ⟨e, e'⟩ | h
  · rw [e, e']; exact ty46
  rcases lookup_one h with ⟨e, e'⟩ | h
  · rw [e, e']; exact ty47
  rcases lookup_one h with ⟨e, e'⟩ | h
  · rw [e, e']; exact ty48
  rcases lookup_one h with ⟨e, e'⟩ | h
  · rw [e, e']; exact ty49
  rcases lookup_one h with ⟨e, e'⟩ | h
  · rw [e, e']; exact ty50
  rcases lookup_one h with ⟨e, e'⟩ | h
  · rw [e, e']; exact ty51
  rcases lookup_one h with ⟨e, e'⟩ | h
  · rw [e, e']; exact ty52
  rcases lookup_one h with ⟨e, e'⟩ | h
  · rw [e, e']; exact ty53
  rcases lookup_one h with ⟨e, e'⟩ | h
  · rw [e, e']; exact ty54
  rcases lookup_one h with ⟨e, e'⟩ | h
  · rw [e, e']; exact ty55
  rcases lookup_one h with ⟨e, e'⟩ | h
  · rw [e, e']; exact ty57
  rcases lookup_one h with ⟨e, e'⟩ | h
  · rw [e, e']; exact ty58
  rcases lookup_one h with ⟨e, e'⟩ | h
  · rw [e, e']; exact ty59
  rcases lookup_one h with ⟨e, e'⟩ | h
  · rw [e, e']; exact ty62
  rcases lookup_one h with ⟨e, e'⟩ | h
  · rw [e, e']; exact ty63
  rcases lookup_one h with ⟨e, e'⟩ | h
  · rw [e, e']; exact ty64
  rcases lookup_one h with ⟨e, e'⟩ | h
  · rw [e, e']; exact ty65
  rcases lookup_one h with ⟨e, e'⟩ | h
  · rw [e, e']; exact ty66
  rcases lookup_one h with ⟨e, e'⟩ | h
  · rw [e, e']; exact ty67
  rcases lookup_one h with ⟨e, e'⟩ | h
  · rw [e, e']; exact ty68
  rcases lookup_one h with ⟨e, e'⟩ | h
  · rw [e, e']; exact ty69
  rcases lookup_one h with ⟨e, e'⟩ | h
  · rw [e, e']; exact ty70
  rcases lookup_one h with ⟨e, e'⟩ | h
  · rw [e, e']; exact ty71
  rcases lookup_one h with ⟨e, e'⟩ | h
  · rw [e, e']; exact ty72
  rcases lookup_one h with ⟨e, e'⟩ | h
  · rw [e, e']; exact ty73
  rcases lookup_one h with ⟨e, e'⟩ | h
  · rw [e, e']; exact ty74
  rcases lookup_one h with ⟨e, e'⟩ | h
  · rw [e, e']; exact ty76
  rcases lookup_one h with ⟨e, e'⟩ | h
  · rw [e, e']; exact ty77
  rcases lookup_one h with ⟨e, e'⟩ | h
  · rw [e, e']; exact ty78
  rcases lookup_one h with ⟨e, e'⟩ | h
  · rw [e, e']; exact ty80
  rcases lookup_one h with ⟨e, e'⟩ | h
  · rw [e, e']; exact ty81
  rcases lookup_one h with ⟨e, e'⟩ | h
  · rw [e, e']; exact ty82
  rcases lookup_one h with ⟨e, e'⟩ | h
  · rw [e, e']; exact ty83
  rcases lookup_one h with ⟨e, e'⟩ | h
  · rw [e, e']; exact ty84
  rcases lookup_one h with ⟨e, e'⟩ | h
  · rw [e, e']; exact ty85
  rcases lookup_one h with ⟨e, e'⟩ | h
  · rw [e, e']; exact ty86
  rcases lookup_one h with ⟨e, e'⟩ | h
  · rw [e, e']; exact ty87
  rcases lookup_one h with ⟨e, e'⟩ | h
  · rw [e, e']; exact ty88
  rcases lookup_one h with ⟨e, e'⟩ | h
  · rw [e, e']; exact ty90
  rcases lookup_one h with ⟨e, e'⟩ | h
  · rw [e, e']; exact ty92
  rcases lookup_one h with ⟨e, e'⟩ | h
  · rw [e, e']; exact ty94
  rcases lookup_one h with ⟨e, e'⟩ | h
  · rw [e, e']; exact ty95
  rcases lookup_one h with ⟨e, e'⟩ | h
  · rw [e, e']; exact ty96
  rcases lookup_one h with ⟨e, e'⟩ | h
  · rw [e, e']; exact ty97
  rcases lookup_one h with ⟨e, e'⟩ | h
  · rw [e, e']; exact ty98
  rcases lookup_one h with ⟨e, e'⟩ | h
  · rw [e, e']; exact ty99
  rcases lookup_one h with ⟨e, e'⟩ | h
  · rw [e, e']; exact ty100
  rcases lookup_one h with ⟨e, e'⟩ | h
  · rw [e, e']; exact ty101
  rcases lookup_one h with ⟨e, e'⟩ | h
  · rw [e, e']; exact ty102
  rcases lookup_one h with ⟨e, e'⟩ | h
  · rw [e, e']; exact ty103
  rcases lookup_one h with ⟨e, e'⟩ | h
  · rw [e, e']; exact ty104
  rcases lookup_one h with ⟨e, e'⟩ | h
  · rw [e, e']; exact ty105
  rcases lookup_one h with ⟨e, e'⟩ | h
  · rw [e, e']; exact ty106
  rcases lookup_one h with ⟨e, e'⟩ | h
  · rw [e, e']; exact ty107
  rcases lookup_one h with ⟨e, e'⟩ | h
  · rw [e, e']; exact ty108
  rcases lookup_one h with ⟨e, e'⟩ | h
  · rw [e, e']; exact ty109
  rcases lookup_one h with ⟨e, e'⟩ | h
  · rw [e, e']; exact ty110
  rcases lookup_one h with ⟨e, e'⟩ | h
  · rw [e, e']; exact ty111
  rcases lookup_one h with ⟨e, e'⟩ | h
  · rw [e, e']; exact ty112
  rcases lookup_one h with ⟨e, e'⟩ | h
  · rw [e, e']; exact ty113
  rcases lookup_one h with ⟨e, e'⟩ | h
  · rw [e, e']; exact ty114
  rcases lookup_one h with ⟨e, e'⟩ | h
  · rw [e, e']; exact ty116
  rcases lookup_one h with ⟨e, e'⟩ | h
  · rw [e, e']; exact ty117
  rcases lookup_one h with ⟨e, e'⟩ | h
  · rw [e, e']; exact ty118
  rcases lookup_one h with ⟨e, e'⟩ | h
  · rw [e, e']; exact ty119
  rcases lookup_one h with ⟨e, e'⟩ | h
  · rw [e, e']; exact ty120
  rcases lookup_one h with ⟨e, e'⟩ | h
  · rw [e, e']; exact ty121
  rcases lookup_one h with ⟨e, e'⟩ | h
  · rw [e, e']; exact ty122
  rcases lookup_one h with ⟨e, e'⟩ | h
  · rw [e, e']; exact ty123
  rcases lookup_one h with ⟨e, e'⟩ | h
  · rw [e, e']; exact ty124
  rcases lookup_one h with ⟨e, e'⟩ | h
  · rw [e, e']; exact ty125
  rcases lookup_one h with ⟨e, e'⟩ | h
  · rw [e, e']; exact ty126
  rcases lookup_one h with ⟨e, e'⟩ | h
  · rw [e, e']; exact ty127
  rcases lookup_one h with ⟨e, e'⟩ | h
  · rw [e, e']; exact ty128
  rcases lookup_one h with ⟨e, e'⟩ | h
  · rw [e, e']; exact ty129
  rcases lookup_one h with ⟨e, e'⟩ | h
  · rw [e, e']; exact ty130
  rcases lookup_one h with ⟨e, e'⟩ | h
  · rw [e, e']; exact ty131
  cases h
end Go.Proofs.YtkdffofjnjamlaaDoor

