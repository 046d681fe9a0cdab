/- The types of the program, as the walk asks them. -/
import Derived.Test.YtlpbhgcndebkcaaProg
import Derived.Test.YtlpbhgcndebkcaaZVcFn
namespace Go.Proofs.Ytlpbhgcndebkcaa
open Go Go.Vc Go.Proofs
def tys : List (Nat × TI) := [
  (1, ⟨.fn, none, 1, 8, [.nilFunc]⟩),
  (2, ⟨.int .i64, some (.int .i64), 1, 8, [.int .i64 0]⟩),
  (3, ⟨.int .i64, some (.int .i64), 1, 8, [.int .i64 0]⟩),
  (4, ⟨.bool, some .bool, 1, 1, [.bool false]⟩),
  (5, ⟨.int .u8, some (.int .u8), 1, 1, [.int .u8 0]⟩),
  (6, ⟨.int .u8, some (.int .u8), 1, 1, [.int .u8 0]⟩),
  (7, ⟨.st [(2, 0), (3, 1), (4, 2), (6, 3)], some (.pair (.int .i64) (.pair (.int .i64) (.pair .bool (.int .u8)))), 4, 24, [.int .i64 0, .int .i64 0, .bool false, .int .u8 0]⟩),
  (8, ⟨.st [(2, 0), (3, 1), (4, 2), (6, 3)], some (.pair (.int .i64) (.pair (.int .i64) (.pair .bool (.int .u8)))), 4, 24, [.int .i64 0, .int .i64 0, .bool false, .int .u8 0]⟩),
  (9, ⟨.str, some .str, 1, 16, [.string ⟨#[]⟩]⟩),
  (10, ⟨.str, some .str, 1, 16, [.string ⟨#[]⟩]⟩),
  (11, ⟨.str, some .str, 1, 16, [.string ⟨#[]⟩]⟩),
  (12, ⟨.int .u64, some (.int .u64), 1, 8, [.int .u64 0]⟩),
  (13, ⟨.st [(9, 0), (12, 1)], some (.pair .str (.int .u64)), 2, 24, [.string ⟨#[]⟩, .int .u64 0]⟩),
  (14, ⟨.st [(9, 0), (12, 1)], some (.pair .str (.int .u64)), 2, 24, [.string ⟨#[]⟩, .int .u64 0]⟩),
  (15, ⟨.ptr 48, none, 1, 8, [.pointer none]⟩),
  (16, ⟨.ptr 51, none, 1, 8, [.pointer none]⟩),
  (17, ⟨.ptr 60, none, 1, 8, [.pointer none]⟩),
  (18, ⟨.st [(17, 0)], none, 1, 8, [.pointer none]⟩),
  (19, ⟨.st [(17, 0)], none, 1, 8, [.pointer none]⟩),
  (20, ⟨.ifc, none, 1, 16, [.nilIface]⟩),
  (21, ⟨.int .i32, some (.int .i32), 1, 4, [.int .i32 0]⟩),
  (22, ⟨.fn, none, 1, 8, [.nilFunc]⟩),
  (23, ⟨.fn, none, 1, 8, [.nilFunc]⟩),
  (24, ⟨.fn, none, 1, 8, [.nilFunc]⟩),
  (25, ⟨.fn, none, 1, 8, [.nilFunc]⟩),
  (26, ⟨.fn, none, 1, 8, [.nilFunc]⟩),
  (27, ⟨.sl 9, some (.sl .str), 1, 24, [.slice none 0 0]⟩),
  (28, ⟨.fn, none, 1, 8, [.nilFunc]⟩),
  (29, ⟨.fn, none, 1, 8, [.nilFunc]⟩),
  (30, ⟨.fn, none, 1, 8, [.nilFunc]⟩),
  (31, ⟨.fn, none, 1, 8, [.nilFunc]⟩),
  (32, ⟨.fn, none, 1, 8, [.nilFunc]⟩),
  (34, ⟨.fn, none, 1, 8, [.nilFunc]⟩),
  (36, ⟨.fn, none, 1, 8, [.nilFunc]⟩),
  (37, ⟨.fn, none, 1, 8, [.nilFunc]⟩),
  (38, ⟨.fn, none, 1, 8, [.nilFunc]⟩),
  (39, ⟨.fn, none, 1, 8, [.nilFunc]⟩),
  (40, ⟨.sl 5, some (.sl (.int .u8)), 1, 24, [.slice none 0 0]⟩),
  (41, ⟨.fn, none, 1, 8, [.nilFunc]⟩),
  (42, ⟨.int .u64, some (.int .u64), 1, 8, [.int .u64 0]⟩),
  (43, ⟨.int .u32, some (.int .u32), 1, 4, [.int .u32 0]⟩),
  (45, ⟨.fn, none, 1, 8, [.nilFunc]⟩),
  (46, ⟨.fn, none, 1, 8, [.nilFunc]⟩),
  (47, ⟨.st [(17, 0), (17, 1), (17, 2), (9, 3)], none, 4, 40, [.pointer none, .pointer none, .pointer none, .string ⟨#[]⟩]⟩),
  (48, ⟨.st [(17, 0), (17, 1), (17, 2), (9, 3)], none, 4, 40, [.pointer none, .pointer none, .pointer none, .string ⟨#[]⟩]⟩),
  (49, ⟨.arr 0 16, none, 0, 0, []⟩),
  (50, ⟨.st [(49, 0)], none, 0, 0, []⟩),
  (51, ⟨.st [(49, 0)], none, 0, 0, []⟩),
  (52, ⟨.fn, none, 1, 8, [.nilFunc]⟩),
  (53, ⟨.int .u8, some (.int .u8), 1, 1, [.int .u8 0]⟩),
  (54, ⟨.int .u8, some (.int .u8), 1, 1, [.int .u8 0]⟩),
  (55, ⟨.fn, none, 1, 8, [.nilFunc]⟩),
  (56, ⟨.ptr 5, none, 1, 8, [.pointer none]⟩),
  (57, ⟨.int .i32, some (.int .i32), 1, 4, [.int .i32 0]⟩),
  (58, ⟨.int .i32, some (.int .i32), 1, 4, [.int .i32 0]⟩),
  (59, ⟨.st [(12, 0), (12, 1), (43, 2), (53, 3), (5, 4), (5, 5), (54, 6), (55, 7), (56, 8), (57, 9), (58, 10)], none, 11, 48, [.int .u64 0, .int .u64 0, .int .u32 0, .int .u8 0, .int .u8 0, .int .u8 0, .int .u8 0, .nilFunc, .pointer none, .int .i32 0, .int .i32 0]⟩),
  (60, ⟨.st [(12, 0), (12, 1), (43, 2), (53, 3), (5, 4), (5, 5), (54, 6), (55, 7), (56, 8), (57, 9), (58, 10)], none, 11, 48, [.int .u64 0, .int .u64 0, .int .u32 0, .int .u8 0, .int .u8 0, .int .u8 0, .int .u8 0, .nilFunc, .pointer none, .int .i32 0, .int .i32 0]⟩)]
theorem ty1 : TI.ok Try.prog 1 ⟨.fn, none, 1, 8, [.nilFunc]⟩ := ⟨⟨_, _, _, rfl⟩, by kernel_rfl, by kernel_rfl, fun k h => by cases h⟩
theorem ty2 : TI.ok Try.prog 2 ⟨.int .i64, some (.int .i64), 1, 8, [.int .i64 0]⟩ := ⟨(by kernel_rfl : _ = _), by kernel_rfl, by kernel_rfl, fun k h => by cases h; exact ⟨by kernel_rfl, by kernel_rfl, by kernel_rfl⟩⟩
theorem ty3 : TI.ok Try.prog 3 ⟨.int .i64, some (.int .i64), 1, 8, [.int .i64 0]⟩ := ⟨(by kernel_rfl : _ = _), by kernel_rfl, by kernel_rfl, fun k h => by cases h; exact ⟨by kernel_rfl, by kernel_rfl, by kernel_rfl⟩⟩
theorem ty4 : TI.ok Try.prog 4 ⟨.bool, some .bool, 1, 1, [.bool false]⟩ := ⟨(by kernel_rfl : _ = _), by kernel_rfl, by kernel_rfl, fun k h => by cases h; exact ⟨by kernel_rfl, by kernel_rfl, by kernel_rfl⟩⟩
theorem ty5 : TI.ok Try.prog 5 ⟨.int .u8, some (.int .u8), 1, 1, [.int .u8 0]⟩ := ⟨(by kernel_rfl : _ = _), by kernel_rfl, by kernel_rfl, fun k h => by cases h; exact ⟨by kernel_rfl, by kernel_rfl, by kernel_rfl⟩⟩
theorem ty6 : TI.ok Try.prog 6 ⟨.int .u8, some (.int .u8), 1, 1, [.int .u8 0]⟩ := ⟨(by kernel_rfl : _ = _), by kernel_rfl, by kernel_rfl, fun k h => by cases h; exact ⟨by kernel_rfl, by kernel_rfl, by kernel_rfl⟩⟩
theorem ty7 : TI.ok Try.prog 7 ⟨.st [(2, 0), (3, 1), (4, 2), (6, 3)], some (.pair (.int .i64) (.pair (.int .i64) (.pair .bool (.int .u8)))), 4, 24, [.int .i64 0, .int .i64 0, .bool false, .int .u8 0]⟩ := ⟨⟨by kernel_rfl, by kernel_rfl⟩, by kernel_rfl, by kernel_rfl, fun k h => by cases h; exact ⟨by kernel_rfl, by kernel_rfl, by kernel_rfl⟩⟩
theorem ty8 : TI.ok Try.prog 8 ⟨.st [(2, 0), (3, 1), (4, 2), (6, 3)], some (.pair (.int .i64) (.pair (.int .i64) (.pair .bool (.int .u8)))), 4, 24, [.int .i64 0, .int .i64 0, .bool false, .int .u8 0]⟩ := ⟨⟨by kernel_rfl, by kernel_rfl⟩, by kernel_rfl, by kernel_rfl, fun k h => by cases h; exact ⟨by kernel_rfl, by kernel_rfl, by kernel_rfl⟩⟩
theorem ty9 : TI.ok Try.prog 9 ⟨.str, some .str, 1, 16, [.string ⟨#[]⟩]⟩ := ⟨(by kernel_rfl : _ = _), by kernel_rfl, by kernel_rfl, fun k h => by cases h; exact ⟨by kernel_rfl, by kernel_rfl, by kernel_rfl⟩⟩
theorem ty10 : TI.ok Try.prog 10 ⟨.str, some .str, 1, 16, [.string ⟨#[]⟩]⟩ := ⟨(by kernel_rfl : _ = _), by kernel_rfl, by kernel_rfl, fun k h => by cases h; exact ⟨by kernel_rfl, by kernel_rfl, by kernel_rfl⟩⟩
theorem ty11 : TI.ok Try.prog 11 ⟨.str, some .str, 1, 16, [.string ⟨#[]⟩]⟩ := ⟨(by kernel_rfl : _ = _), by kernel_rfl, by kernel_rfl, fun k h => by cases h; exact ⟨by kernel_rfl, by kernel_rfl, by kernel_rfl⟩⟩
theorem ty12 : TI.ok Try.prog 12 ⟨.int .u64, some (.int .u64), 1, 8, [.int .u64 0]⟩ := ⟨(by kernel_rfl : _ = _), by kernel_rfl, by kernel_rfl, fun k h => by cases h; exact ⟨by kernel_rfl, by kernel_rfl, by kernel_rfl⟩⟩
theorem ty13 : TI.ok Try.prog 13 ⟨.st [(9, 0), (12, 1)], some (.pair .str (.int .u64)), 2, 24, [.string ⟨#[]⟩, .int .u64 0]⟩ := ⟨⟨by kernel_rfl, by kernel_rfl⟩, by kernel_rfl, by kernel_rfl, fun k h => by cases h; exact ⟨by kernel_rfl, by kernel_rfl, by kernel_rfl⟩⟩
theorem ty14 : TI.ok Try.prog 14 ⟨.st [(9, 0), (12, 1)], some (.pair .str (.int .u64)), 2, 24, [.string ⟨#[]⟩, .int .u64 0]⟩ := ⟨⟨by kernel_rfl, by kernel_rfl⟩, by kernel_rfl, by kernel_rfl, fun k h => by cases h; exact ⟨by kernel_rfl, by kernel_rfl, by kernel_rfl⟩⟩
theorem ty15 : TI.ok Try.prog 15 ⟨.ptr 48, none, 1, 8, [.pointer none]⟩ := ⟨(by kernel_rfl : _ = _), by kernel_rfl, by kernel_rfl, fun k h => by cases h⟩
theorem ty16 : TI.ok Try.prog 16 ⟨.ptr 51, none, 1, 8, [.pointer none]⟩ := ⟨(by kernel_rfl : _ = _), by kernel_rfl, by kernel_rfl, fun k h => by cases h⟩
theorem ty17 : TI.ok Try.prog 17 ⟨.ptr 60, none, 1, 8, [.pointer none]⟩ := ⟨(by kernel_rfl : _ = _), by kernel_rfl, by kernel_rfl, fun k h => by cases h⟩
theorem ty18 : TI.ok Try.prog 18 ⟨.st [(17, 0)], none, 1, 8, [.pointer none]⟩ := ⟨⟨by kernel_rfl, by kernel_rfl⟩, by kernel_rfl, by kernel_rfl, fun k h => by cases h⟩
theorem ty19 : TI.ok Try.prog 19 ⟨.st [(17, 0)], none, 1, 8, [.pointer none]⟩ := ⟨⟨by kernel_rfl, by kernel_rfl⟩, by kernel_rfl, by kernel_rfl, fun k h => by cases h⟩
theorem ty20 : TI.ok Try.prog 20 ⟨.ifc, none, 1, 16, [.nilIface]⟩ := ⟨⟨_, rfl⟩, by kernel_rfl, by kernel_rfl, fun k h => by cases h⟩
theorem ty21 : TI.ok Try.prog 21 ⟨.int .i32, some (.int .i32), 1, 4, [.int .i32 0]⟩ := ⟨(by kernel_rfl : _ = _), by kernel_rfl, by kernel_rfl, fun k h => by cases h; exact ⟨by kernel_rfl, by kernel_rfl, by kernel_rfl⟩⟩
theorem ty22 : TI.ok Try.prog 22 ⟨.fn, none, 1, 8, [.nilFunc]⟩ := ⟨⟨_, _, _, rfl⟩, by kernel_rfl, by kernel_rfl, fun k h => by cases h⟩
theorem ty23 : TI.ok Try.prog 23 ⟨.fn, none, 1, 8, [.nilFunc]⟩ := ⟨⟨_, _, _, rfl⟩, by kernel_rfl, by kernel_rfl, fun k h => by cases h⟩
theorem ty24 : TI.ok Try.prog 24 ⟨.fn, none, 1, 8, [.nilFunc]⟩ := ⟨⟨_, _, _, rfl⟩, by kernel_rfl, by kernel_rfl, fun k h => by cases h⟩
theorem ty25 : TI.ok Try.prog 25 ⟨.fn, none, 1, 8, [.nilFunc]⟩ := ⟨⟨_, _, _, rfl⟩, by kernel_rfl, by kernel_rfl, fun k h => by cases h⟩
theorem ty26 : TI.ok Try.prog 26 ⟨.fn, none, 1, 8, [.nilFunc]⟩ := ⟨⟨_, _, _, rfl⟩, by kernel_rfl, by kernel_rfl, fun k h => by cases h⟩
theorem ty27 : TI.ok Try.prog 27 ⟨.sl 9, some (.sl .str), 1, 24, [.slice none 0 0]⟩ := ⟨(by kernel_rfl : _ = _), by kernel_rfl, by kernel_rfl, fun k h => by cases h; exact ⟨by kernel_rfl, by kernel_rfl, by kernel_rfl⟩⟩
theorem ty28 : TI.ok Try.prog 28 ⟨.fn, none, 1, 8, [.nilFunc]⟩ := ⟨⟨_, _, _, rfl⟩, by kernel_rfl, by kernel_rfl, fun k h => by cases h⟩
theorem ty29 : TI.ok Try.prog 29 ⟨.fn, none, 1, 8, [.nilFunc]⟩ := ⟨⟨_, _, _, rfl⟩, by kernel_rfl, by kernel_rfl, fun k h => by cases h⟩
theorem ty30 : TI.ok Try.prog 30 ⟨.fn, none, 1, 8, [.nilFunc]⟩ := ⟨⟨_, _, _, rfl⟩, by kernel_rfl, by kernel_rfl, fun k h => by cases h⟩
theorem ty31 : TI.ok Try.prog 31 ⟨.fn, none, 1, 8, [.nilFunc]⟩ := ⟨⟨_, _, _, rfl⟩, by kernel_rfl, by kernel_rfl, fun k h => by cases h⟩
theorem ty32 : TI.ok Try.prog 32 ⟨.fn, none, 1, 8, [.nilFunc]⟩ := ⟨⟨_, _, _, rfl⟩, by kernel_rfl, by kernel_rfl, fun k h => by cases h⟩
theorem ty34 : TI.ok Try.prog 34 ⟨.fn, none, 1, 8, [.nilFunc]⟩ := ⟨⟨_, _, _, rfl⟩, by kernel_rfl, by kernel_rfl, fun k h => by cases h⟩
theorem ty36 : TI.ok Try.prog 36 ⟨.fn, none, 1, 8, [.nilFunc]⟩ := ⟨⟨_, _, _, rfl⟩, by kernel_rfl, by kernel_rfl, fun k h => by cases h⟩
theorem ty37 : TI.ok Try.prog 37 ⟨.fn, none, 1, 8, [.nilFunc]⟩ := ⟨⟨_, _, _, rfl⟩, by kernel_rfl, by kernel_rfl, fun k h => by cases h⟩
theorem ty38 : TI.ok Try.prog 38 ⟨.fn, none, 1, 8, [.nilFunc]⟩ := ⟨⟨_, _, _, rfl⟩, by kernel_rfl, by kernel_rfl, fun k h => by cases h⟩
theorem ty39 : TI.ok Try.prog 39 ⟨.fn, none, 1, 8, [.nilFunc]⟩ := ⟨⟨_, _, _, rfl⟩, by kernel_rfl, by kernel_rfl, fun k h => by cases h⟩
theorem ty40 : TI.ok Try.prog 40 ⟨.sl 5, some (.sl (.int .u8)), 1, 24, [.slice none 0 0]⟩ := ⟨(by kernel_rfl : _ = _), by kernel_rfl, by kernel_rfl, fun k h => by cases h; exact ⟨by kernel_rfl, by kernel_rfl, by kernel_rfl⟩⟩
theorem ty41 : TI.ok Try.prog 41 ⟨.fn, none, 1, 8, [.nilFunc]⟩ := ⟨⟨_, _, _, rfl⟩, by kernel_rfl, by kernel_rfl, fun k h => by cases h⟩
theorem ty42 : TI.ok Try.prog 42 ⟨.int .u64, some (.int .u64), 1, 8, [.int .u64 0]⟩ := ⟨(by kernel_rfl : _ = _), by kernel_rfl, by kernel_rfl, fun k h => by cases h; exact ⟨by kernel_rfl, by kernel_rfl, by kernel_rfl⟩⟩
theorem ty43 : TI.ok Try.prog 43 ⟨.int .u32, some (.int .u32), 1, 4, [.int .u32 0]⟩ := ⟨(by kernel_rfl : _ = _), by kernel_rfl, by kernel_rfl, fun k h => by cases h; exact ⟨by kernel_rfl, by kernel_rfl, by kernel_rfl⟩⟩
theorem ty45 : TI.ok Try.prog 45 ⟨.fn, none, 1, 8, [.nilFunc]⟩ := ⟨⟨_, _, _, rfl⟩, by kernel_rfl, by kernel_rfl, fun k h => by cases h⟩
theorem ty46 : TI.ok Try.prog 46 ⟨.fn, none, 1, 8, [.nilFunc]⟩ := ⟨⟨_, _, _, rfl⟩, by kernel_rfl, by kernel_rfl, fun k h => by cases h⟩
theorem ty47 : TI.ok Try.prog 47 ⟨.st [(17, 0), (17, 1), (17, 2), (9, 3)], none, 4, 40, [.pointer none, .pointer none, .pointer none, .string ⟨#[]⟩]⟩ := ⟨⟨by kernel_rfl, by kernel_rfl⟩, by kernel_rfl, by kernel_rfl, fun k h => by cases h⟩
theorem ty48 : TI.ok Try.prog 48 ⟨.st [(17, 0), (17, 1), (17, 2), (9, 3)], none, 4, 40, [.pointer none, .pointer none, .pointer none, .string ⟨#[]⟩]⟩ := ⟨⟨by kernel_rfl, by kernel_rfl⟩, by kernel_rfl, by kernel_rfl, fun k h => by cases h⟩
theorem ty49 : TI.ok Try.prog 49 ⟨.arr 0 16, none, 0, 0, []⟩ := ⟨(by kernel_rfl : _ = _), by kernel_rfl, by kernel_rfl, fun k h => by cases h⟩
theorem ty50 : TI.ok Try.prog 50 ⟨.st [(49, 0)], none, 0, 0, []⟩ := ⟨⟨by kernel_rfl, by kernel_rfl⟩, by kernel_rfl, by kernel_rfl, fun k h => by cases h⟩
theorem ty51 : TI.ok Try.prog 51 ⟨.st [(49, 0)], none, 0, 0, []⟩ := ⟨⟨by kernel_rfl, by kernel_rfl⟩, by kernel_rfl, by kernel_rfl, fun k h => by cases h⟩
theorem ty52 : TI.ok Try.prog 52 ⟨.fn, none, 1, 8, [.nilFunc]⟩ := ⟨⟨_, _, _, rfl⟩, by kernel_rfl, by kernel_rfl, fun k h => by cases h⟩
theorem ty53 : TI.ok Try.prog 53 ⟨.int .u8, some (.int .u8), 1, 1, [.int .u8 0]⟩ := ⟨(by kernel_rfl : _ = _), by kernel_rfl, by kernel_rfl, fun k h => by cases h; exact ⟨by kernel_rfl, by kernel_rfl, by kernel_rfl⟩⟩
theorem ty54 : TI.ok Try.prog 54 ⟨.int .u8, some (.int .u8), 1, 1, [.int .u8 0]⟩ := ⟨(by kernel_rfl : _ = _), by kernel_rfl, by kernel_rfl, fun k h => by cases h; exact ⟨by kernel_rfl, by kernel_rfl, by kernel_rfl⟩⟩
theorem ty55 : TI.ok Try.prog 55 ⟨.fn, none, 1, 8, [.nilFunc]⟩ := ⟨⟨_, _, _, rfl⟩, by kernel_rfl, by kernel_rfl, fun k h => by cases h⟩
theorem ty56 : TI.ok Try.prog 56 ⟨.ptr 5, none, 1, 8, [.pointer none]⟩ := ⟨(by kernel_rfl : _ = _), by kernel_rfl, by kernel_rfl, fun k h => by cases h⟩
theorem ty57 : TI.ok Try.prog 57 ⟨.int .i32, some (.int .i32), 1, 4, [.int .i32 0]⟩ := ⟨(by kernel_rfl : _ = _), by kernel_rfl, by kernel_rfl, fun k h => by cases h; exact ⟨by kernel_rfl, by kernel_rfl, by kernel_rfl⟩⟩
theorem ty58 : TI.ok Try.prog 58 ⟨.int .i32, some (.int .i32), 1, 4, [.int .i32 0]⟩ := ⟨(by kernel_rfl : _ = _), by kernel_rfl, by kernel_rfl, fun k h => by cases h; exact ⟨by kernel_rfl, by kernel_rfl, by kernel_rfl⟩⟩
theorem ty59 : TI.ok Try.prog 59 ⟨.st [(12, 0), (12, 1), (43, 2), (53, 3), (5, 4), (5, 5), (54, 6), (55, 7), (56, 8), (57, 9), (58, 10)], none, 11, 48, [.int .u64 0, .int .u64 0, .int .u32 0, .int .u8 0, .int .u8 0, .int .u8 0, .int .u8 0, .nilFunc, .pointer none, .int .i32 0, .int .i32 0]⟩ := ⟨⟨by kernel_rfl, by kernel_rfl⟩, by kernel_rfl, by kernel_rfl, fun k h => by cases h⟩
theorem ty60 : TI.ok Try.prog 60 ⟨.st [(12, 0), (12, 1), (43, 2), (53, 3), (5, 4), (5, 5), (54, 6), (55, 7), (56, 8), (57, 9), (58, 10)], none, 11, 48, [.int .u64 0, .int .u64 0, .int .u32 0, .int .u8 0, .int .u8 0, .int .u8 0, .int .u8 0, .nilFunc, .pointer none, .int .i32 0, .int .i32 0]⟩ := ⟨⟨by kernel_rfl, by kernel_rfl⟩, by kernel_rfl, by kernel_rfl, fun k h => by cases h⟩
theorem lookup_one {α : Type} {d i : Nat} {s x : α} {l : List (Nat × α)} (h : List.lookup i ((d, s) :: l) = some x) : (i = d ∧ x = s) ∨ l.lookup i = some x := by
  by_cases e : i = d
  · simp [e, List.lookup] at h; exact .inl ⟨e, h.symm⟩
  · have : (i == d) = false := by simp [e]
    simp only [List.lookup, this] at h; exact .inr h
noncomputable def ty : Ty := ⟨Try.prog, tys⟩
theorem tyOk : ty.Ok := by
  intro t i h
  change tys.lookup t = some i at h
  change i.ok Try.prog t
  unfold tys at h
  rcases lookup_one h with ⟨e, e'⟩ | h
  · rw [e, e']; exact ty1
  rcases lookup_one h with ⟨e, e'⟩ | h
  · rw [e, e']; exact ty2
  rcases lookup_one h with ⟨e, e'⟩ | h
  · rw [e, e']; exact ty3
  rcases lookup_one h with ⟨e, e'⟩ | h
  · rw [e, e']; exact ty4
  rcases lookup_one h with ⟨e, e'⟩ | h
  · rw [e, e']; exact ty5
  rcases lookup_one h with ⟨e, e'⟩ | h
  · rw [e, e']; exact ty6
  rcases lookup_one h with ⟨e, e'⟩ | h
  · rw [e, e']; exact ty7
  rcases lookup_one h with ⟨e, e'⟩ | h
  · rw [e, e']; exact ty8
  rcases lookup_one h with ⟨e, e'⟩ | h
  · rw [e, e']; exact ty9
  rcases lookup_one h with ⟨e, e'⟩ | h
  · rw [e, e']; exact ty10
  rcases lookup_one h with ⟨e, e'⟩ | h
  · rw [e, e']; exact ty11
  rcases lookup_one h with ⟨e, e'⟩ | h
  · rw [e, e']; exact ty12
  rcases lookup_one h with ⟨e, e'⟩ | h
  · rw [e, e']; exact ty13
  rcases lookup_one h with ⟨e, e'⟩ | h
  · rw [e, e']; exact ty14
  rcases lookup_one h with ⟨e, e'⟩ | h
  · rw [e, e']; exact ty15
  rcases lookup_one h with ⟨e, e'⟩ | h
  · rw [e, e']; exact ty16
  rcases lookup_one h with ⟨e, e'⟩ | h
  · rw [e, e']; exact ty17
  rcases lookup_one h with ⟨e, e'⟩ | h
  · rw [e, e']; exact ty18
  rcases lookup_one h with ⟨e, e'⟩ | h
  · rw [e, e']; exact ty19
  rcases lookup_one h with ⟨e, e'⟩ | h
  · rw [e, e']; exact ty20
  rcases lookup_one h with ⟨e, e'⟩ | h
  · rw [e, e']; exact ty21
  rcases lookup_one h with ⟨e, e'⟩ | h
  · rw [e, e']; exact ty22
  rcases lookup_one h with ⟨e, e'⟩ | h
  · rw [e, e']; exact ty23
  rcases lookup_one h with ⟨e, e'⟩ | h
  · rw [e, e']; exact ty24
  rcases lookup_one h with ⟨e, e'⟩ | h
  · rw [e, e']; exact ty25
  rcases lookup_one h with ⟨e, e'⟩ | h
  · rw [e, e']; exact ty26
  rcases lookup_one h with ⟨e, e'⟩ | h
  · rw [e, e']; exact ty27
  rcases lookup_one h with ⟨e, e'⟩ | h
  · rw [e, e']; exact ty28
  rcases lookup_one h with ⟨e, e'⟩ | h
  · rw [e, e']; exact ty29
  rcases lookup_one h with ⟨e, e'⟩ | h
  · rw [e, e']; exact ty30
  rcases lookup_one h with ⟨e, e'⟩ | h
  · rw [e, e']; exact ty31
  rcases lookup_one h with ⟨e, e'⟩ | h
  · rw [e, e']; exact ty32
  rcases lookup_one h with ⟨e, e'⟩ | h
  · rw [e, e']; exact ty34
  rcases lookup_one h with ⟨e, e'⟩ | h
  · rw [e, e']; exact ty36
  rcases lookup_one h with ⟨e, e'⟩ | h
  · rw [e, e']; exact ty37
  rcases lookup_one h with ⟨e, e'⟩ | h
  · rw [e, e']; exact ty38
  rcases lookup_one h with ⟨e, e'⟩ | h
  · rw [e, e']; exact ty39
  rcases lookup_one h with ⟨e, e'⟩ | h
  · rw [e, e']; exact ty40
  rcases lookup_one h with ⟨e, e'⟩ | h
  · rw [e, e']; exact ty41
  rcases lookup_one h with ⟨e, e'⟩ | h
  · rw [e, e']; exact ty42
  rcases lookup_one h with ⟨e, e'⟩ | h
  · rw [e, e']; exact ty43
  rcases lookup_one h with ⟨e, e'⟩ | h
  · rw [e, e']; exact ty45
  rcases lookup_one h with ⟨e, e'⟩ | h
  · rw [e, e']; exact ty46
  rcases lookup_one h with ⟨e, e'⟩ | h
  · rw [e, e']; exact ty47
  rcases lookup_one h with ⟨e, e'⟩ | h
  · rw [e, e']; exact ty48
  rcases lookup_one h with ⟨e, e'⟩ | h
  · rw [e, e']; exact ty49
  rcases lookup_one h with ⟨e, e'⟩ | h
  · rw [e, e']; exact ty50
  rcases lookup_one h with ⟨e, e'⟩ | h
  · rw [e, e']; exact ty51
  rcases lookup_one h with ⟨e, e'⟩ | h
  · rw [e, e']; exact ty52
  rcases lookup_one h with ⟨e, e'⟩ | h
  · rw [e, e']; exact ty53
  rcases lookup_one h with ⟨e, e'⟩ | h
  · rw [e, e']; exact ty54
  rcases lookup_one h with ⟨e, e'⟩ | h
  · rw [e, e']; exact ty55
  rcases lookup_one h with ⟨e, e'⟩ | h
  · rw [e, e']; exact ty56
  rcases lookup_one h with ⟨e, e'⟩ | h
  · rw [e, e']; exact ty57
  rcases lookup_one h with ⟨e, e'⟩ | h
  · rw [e, e']; exact ty58
  rcases lookup_one h with ⟨e, e'⟩ | h
  · rw [e, e']; exact ty59
  rcases lookup_one h with ⟨e, e'⟩ | h
  · rw [e, e']; exact ty60
  cases h
end Go.Proofs.Ytlpbhgcndebkcaa

