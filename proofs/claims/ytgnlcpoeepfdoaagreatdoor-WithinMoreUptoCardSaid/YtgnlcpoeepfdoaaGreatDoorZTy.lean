import Derived.Test.YtgnlcpoeepfdoaaGreatDoorProg
import Derived.Test.YtgnlcpoeepfdoaaGreatDoorZV05
namespace Go.Proofs.YtgnlcpoeepfdoaaGreatDoor
set_option maxRecDepth 100000
open Go Go.Vc Go.Proofs
def tyn1 : List Nat := [1, 22, 23, 28, 29, 30, 31, 32, 36, 37, 40, 42, 44, 45, 46, 48, 49, 53, 55, 56, 57, 59, 61, 66, 68, 70, 71, 72, 73, 74, 75, 76, 80, 81, 83, 86, 87, 88, 93, 94, 95,
  99, 100, 101, 102, 103, 104, 106, 109, 112, 113, 115, 116, 118, 119, 121, 123, 124, 125, 126, 127, 128, 131, 134, 136, 137, 144, 147, 148, 149, 151, 152, 153, 154, 156, 158, 159, 160, 162,
  164, 165, 166, 170, 171, 172, 173, 181]
def tys1 : List (Nat × TI) := tyn1.map fun n => (n, ⟨.fn, some .fn, 1, 8, [.nilFunc]⟩)
theorem tyo1 : ∀ n ∈ tyn1, TI.ok Tryz.prog n ⟨.fn, some .fn, 1, 8, [.nilFunc]⟩ := by
  unfold tyn1
  repeat' (first | exact List.forall_mem_nil _ | refine List.forall_mem_cons.2 ⟨⟨⟨_, _, _, rfl⟩, by kernel_rfl, by kernel_rfl, fun k h => by cases h; exact ⟨by kernel_rfl, by kernel_rfl, by kernel_rfl⟩⟩, ?_⟩)
theorem tya1 : ∀ p ∈ tys1, p.2.ok Tryz.prog p.1 := by
  intro p h
  obtain ⟨n, hn, rfl⟩ := List.mem_map.1 h
  exact tyo1 n hn
def tys2 : List (Nat × TI) := [(2, ⟨.int .i64, some (.int .i64), 1, 8, [.int .i64 0]⟩), (3, ⟨.int .i64, some (.int .i64), 1, 8, [.int .i64 0]⟩), (34, ⟨.int .i64, some (.int .i64), 1, 8,
  [.int .i64 0]⟩), (4, ⟨.bool, some .bool, 1, 1, [.bool false]⟩), (5, ⟨.int .u8, some (.int .u8), 1, 1, [.int .u8 0]⟩), (6, ⟨.int .u8, some (.int .u8), 1, 1, [.int .u8 0]⟩), (179, ⟨.int .u8,
  some (.int .u8), 1, 1, [.int .u8 0]⟩), (180, ⟨.int .u8, some (.int .u8), 1, 1, [.int .u8 0]⟩), (9, ⟨.str, some .str, 1, 16, [.string ⟨#[]⟩]⟩), (10, ⟨.str, some .str, 1, 16, [.string
  ⟨#[]⟩]⟩), (11, ⟨.str, some .str, 1, 16, [.string ⟨#[]⟩]⟩), (12, ⟨.int .u64, some (.int .u64), 1, 8, [.int .u64 0]⟩), (138, ⟨.int .u64, some (.int .u64), 1, 8, [.int .u64 0]⟩), (21, ⟨.int
  .i32, some (.int .i32), 1, 4, [.int .i32 0]⟩), (182, ⟨.int .i32, some (.int .i32), 1, 4, [.int .i32 0]⟩), (183, ⟨.int .i32, some (.int .i32), 1, 4, [.int .i32 0]⟩), (33, ⟨.sl 25, some (.sl
  (.pair (.int .i64) .str)), 1, 24, [.slice none 0 0]⟩), (38, ⟨.sl 27, some (.sl (.pair (.int .i64) .str)), 1, 24, [.slice none 0 0]⟩), (47, ⟨.sl 9, some (.sl .str), 1, 24, [.slice none 0
  0]⟩), (50, ⟨.sl 111, some (.sl (.pair (.int .i64) .str)), 1, 24, [.slice none 0 0]⟩), (51, ⟨.sl 111, some (.sl (.pair (.int .i64) .str)), 1, 24, [.slice none 0 0]⟩), (54, ⟨.sl 5, some (.sl
  (.int .u8)), 1, 24, [.slice none 0 0]⟩), (65, ⟨.map 3 63, some (.mp (.pair .fn .str)), 1, 8, [.map none]⟩), (69, ⟨.arr 2 33, some (.arr 2 (.sl (.pair (.int .i64) .str))), 2, 48, [.slice
  none 0 0, .slice none 0 0]⟩), (85, ⟨.sl 84, some (.sl (.pair (.int .i64) .fn)), 1, 24, [.slice none 0 0]⟩), (107, ⟨.sl 78, some (.sl (.pair (.int .i64) (.sl (.int .u8)))), 1, 24, [.slice
  none 0 0]⟩), (114, ⟨.sl 3, some (.sl (.int .i64)), 1, 24, [.slice none 0 0]⟩), (132, ⟨.sl 129, some (.sl (.pair (.int .i64) (.sl (.int .u8)))), 1, 24, [.slice none 0 0]⟩), (142, ⟨.arr 16
  141, some (.arr 16 (.pair (.int .u8) (.int .u8))), 32, 32, List.replicate 32 (.int .u8 0)⟩), (145, ⟨.int .u32, some (.int .u32), 1, 4, [.int .u32 0]⟩)]
theorem tya2 : ∀ p ∈ tys2, p.2.ok Tryz.prog p.1 := by
  unfold tys2
  repeat' (first | exact List.forall_mem_nil _ | refine List.forall_mem_cons.2 ⟨⟨(by kernel_rfl : _ = _), by kernel_rfl, by kernel_rfl, fun k h => by cases h; exact ⟨by kernel_rfl, by kernel_rfl, by kernel_rfl⟩⟩, ?_⟩)
def tys3 : List (Nat × TI) := [(7, ⟨.st [(2, 0), (3, 1), (4, 2), (6, 3)], some (.pair (.int .i64) (.pair (.int .i64) (.pair .bool (.int .u8)))), 4, 24, [.int .i64 0, .int .i64 0, .bool
  false, .int .u8 0]⟩), (8, ⟨.st [(2, 0), (3, 1), (4, 2), (6, 3)], some (.pair (.int .i64) (.pair (.int .i64) (.pair .bool (.int .u8)))), 4, 24, [.int .i64 0, .int .i64 0, .bool false, .int
  .u8 0]⟩), (13, ⟨.st [(9, 0), (12, 1)], some (.pair .str (.int .u64)), 2, 24, [.string ⟨#[]⟩, .int .u64 0]⟩), (14, ⟨.st [(9, 0), (12, 1)], some (.pair .str (.int .u64)), 2, 24, [.string
  ⟨#[]⟩, .int .u64 0]⟩), (24, ⟨.st [(3, 0), (9, 1)], some (.pair (.int .i64) .str), 2, 24, [.int .i64 0, .string ⟨#[]⟩]⟩), (25, ⟨.st [(3, 0), (9, 1)], some (.pair (.int .i64) .str), 2, 24,
  [.int .i64 0, .string ⟨#[]⟩]⟩), (26, ⟨.st [(3, 0), (9, 1)], some (.pair (.int .i64) .str), 2, 24, [.int .i64 0, .string ⟨#[]⟩]⟩), (27, ⟨.st [(3, 0), (9, 1)], some (.pair (.int .i64) .str),
  2, 24, [.int .i64 0, .string ⟨#[]⟩]⟩), (58, ⟨.st [(3, 0), (9, 1)], some (.pair (.int .i64) .str), 2, 24, [.int .i64 0, .string ⟨#[]⟩]⟩), (110, ⟨.st [(3, 0), (9, 1)], some (.pair (.int .i64)
  .str), 2, 24, [.int .i64 0, .string ⟨#[]⟩]⟩), (111, ⟨.st [(3, 0), (9, 1)], some (.pair (.int .i64) .str), 2, 24, [.int .i64 0, .string ⟨#[]⟩]⟩), (62, ⟨.st [(30, 0), (9, 1)], some (.pair .fn
  .str), 2, 24, [.nilFunc, .string ⟨#[]⟩]⟩), (63, ⟨.st [(30, 0), (9, 1)], some (.pair .fn .str), 2, 24, [.nilFunc, .string ⟨#[]⟩]⟩), (77, ⟨.st [(3, 0), (54, 1)], some (.pair (.int .i64) (.sl
  (.int .u8))), 2, 32, [.int .i64 0, .slice none 0 0]⟩), (78, ⟨.st [(3, 0), (54, 1)], some (.pair (.int .i64) (.sl (.int .u8))), 2, 32, [.int .i64 0, .slice none 0 0]⟩), (129, ⟨.st [(3, 0),
  (54, 1)], some (.pair (.int .i64) (.sl (.int .u8))), 2, 32, [.int .i64 0, .slice none 0 0]⟩), (84, ⟨.st [(3, 0), (56, 1)], some (.pair (.int .i64) .fn), 2, 16, [.int .i64 0, .nilFunc]⟩),
  (140, ⟨.st [(5, 0), (5, 1)], some (.pair (.int .u8) (.int .u8)), 2, 2, [.int .u8 0, .int .u8 0]⟩), (141, ⟨.st [(5, 0), (5, 1)], some (.pair (.int .u8) (.int .u8)), 2, 2, [.int .u8 0, .int
  .u8 0]⟩), (167, ⟨.st [(34, 0)], some (.pair (.int .i64) .unit), 1, 8, [.int .i64 0]⟩), (168, ⟨.st [(34, 0)], some (.pair (.int .i64) .unit), 1, 8, [.int .i64 0]⟩)]
theorem tya3 : ∀ p ∈ tys3, p.2.ok Tryz.prog p.1 := by
  unfold tys3
  repeat' (first | exact List.forall_mem_nil _ | refine List.forall_mem_cons.2 ⟨⟨⟨by kernel_rfl, by kernel_rfl⟩, by kernel_rfl, by kernel_rfl, fun k h => by cases h; exact ⟨by kernel_rfl, by kernel_rfl, by kernel_rfl⟩⟩, ?_⟩)
def tys4 : List (Nat × TI) := [(15, ⟨.ptr 175, none, 1, 8, [.pointer none]⟩), (16, ⟨.ptr 178, none, 1, 8, [.pointer none]⟩), (17, ⟨.ptr 185, none, 1, 8, [.pointer none]⟩), (89, ⟨.ptr 91,
  none, 1, 8, [.pointer none]⟩), (120, ⟨.ptr 5, none, 1, 8, [.pointer none]⟩), (139, ⟨.arr 256 5, none, 256, 256, List.replicate 256 (.int .u8 0)⟩), (176, ⟨.arr 0 16, none, 0, 0, []⟩)]
theorem tya4 : ∀ p ∈ tys4, p.2.ok Tryz.prog p.1 := by
  unfold tys4
  repeat' (first | exact List.forall_mem_nil _ | refine List.forall_mem_cons.2 ⟨⟨(by kernel_rfl : _ = _), by kernel_rfl, by kernel_rfl, fun k h => by cases h⟩, ?_⟩)
def tys5 : List (Nat × TI) := [(18, ⟨.st [(17, 0)], none, 1, 8, [.pointer none]⟩), (19, ⟨.st [(17, 0)], none, 1, 8, [.pointer none]⟩), (90, ⟨.st [(89, 0), (54, 1)], none, 2, 32, [.pointer
  none, .slice none 0 0]⟩), (91, ⟨.st [(89, 0), (54, 1)], none, 2, 32, [.pointer none, .slice none 0 0]⟩), (174, ⟨.st [(17, 0), (17, 1), (17, 2), (9, 3)], none, 4, 40, [.pointer none,
  .pointer none, .pointer none, .string ⟨#[]⟩]⟩), (175, ⟨.st [(17, 0), (17, 1), (17, 2), (9, 3)], none, 4, 40, [.pointer none, .pointer none, .pointer none, .string ⟨#[]⟩]⟩), (177, ⟨.st
  [(176, 0)], none, 0, 0, []⟩), (178, ⟨.st [(176, 0)], none, 0, 0, []⟩), (184, ⟨.st [(12, 0), (12, 1), (145, 2), (179, 3), (5, 4), (5, 5), (180, 6), (181, 7), (120, 8), (182, 9), (183, 10)],
  none, 11, 48, [.int .u64 0, .int .u64 0, .int .u32 0, .int .u8 0, .int .u8 0, .int .u8 0, .int .u8 0, .nilFunc, .pointer none, .int .i32 0, .int .i32 0]⟩), (185, ⟨.st [(12, 0), (12, 1),
  (145, 2), (179, 3), (5, 4), (5, 5), (180, 6), (181, 7), (120, 8), (182, 9), (183, 10)], none, 11, 48, [.int .u64 0, .int .u64 0, .int .u32 0, .int .u8 0, .int .u8 0, .int .u8 0, .int .u8 0,
  .nilFunc, .pointer none, .int .i32 0, .int .i32 0]⟩)]
theorem tya5 : ∀ p ∈ tys5, p.2.ok Tryz.prog p.1 := by
  unfold tys5
  repeat' (first | exact List.forall_mem_nil _ | refine List.forall_mem_cons.2 ⟨⟨⟨by kernel_rfl, by kernel_rfl⟩, by kernel_rfl, by kernel_rfl, fun k h => by cases h⟩, ?_⟩)
def tys6 : List (Nat × TI) := [(20, ⟨.ifc, none, 1, 16, [.nilIface]⟩), (96, ⟨.ifc, none, 1, 16, [.nilIface]⟩), (97, ⟨.ifc, none, 1, 16, [.nilIface]⟩)]
theorem tya6 : ∀ p ∈ tys6, p.2.ok Tryz.prog p.1 := by
  unfold tys6
  repeat' (first | exact List.forall_mem_nil _ | refine List.forall_mem_cons.2 ⟨⟨⟨_, rfl⟩, by kernel_rfl, by kernel_rfl, fun k h => by cases h⟩, ?_⟩)
def tys : List (Nat × TI) := tys1 ++ tys2 ++ tys3 ++ tys4 ++ tys5 ++ tys6
theorem lookup_mem {l : List (Nat × TI)} {i : Nat} {x : TI} (h : l.lookup i = some x) : (i, x) ∈ l := by
  induction l with
  | nil => cases h
  | cons a l ih =>
    obtain ⟨d, s⟩ := a
    by_cases e : i = d
    . simp [e, List.lookup] at h; simp [e, h]
    . have : (i == d) = false := by simp [e]
      simp only [List.lookup, this] at h; exact List.mem_cons_of_mem _ (ih h)
theorem tya : ∀ p ∈ tys, p.2.ok Tryz.prog p.1 := by
  intro p h
  unfold tys at h
  simp only [List.mem_append] at h
  rcases h with ((((h | h) | h) | h) | h) | h
  . exact tya1 p h
  . exact tya2 p h
  . exact tya3 p h
  . exact tya4 p h
  . exact tya5 p h
  . exact tya6 p h
noncomputable def ty : Ty := ⟨Tryz.prog, tys⟩
theorem tyOk : ty.Ok := fun t i h => tya (t, i) (lookup_mem h)
end Go.Proofs.YtgnlcpoeepfdoaaGreatDoor
