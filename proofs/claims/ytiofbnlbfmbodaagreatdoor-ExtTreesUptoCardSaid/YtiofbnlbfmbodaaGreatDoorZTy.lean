import Derived.Test.YtiofbnlbfmbodaaGreatDoorProg
import Derived.Test.YtiofbnlbfmbodaaGreatDoorZV05
namespace Go.Proofs.YtiofbnlbfmbodaaGreatDoor
set_option maxRecDepth 100000
open Go Go.Vc Go.Proofs
def tyn1 : List Nat := [1, 28, 30, 31, 32, 34, 36, 37, 38, 39, 42, 43, 46, 47, 48, 49, 51, 53, 55, 57, 60, 62, 64, 69, 73, 74, 77, 78, 80, 81, 83, 84, 85, 86, 87, 88, 89, 91, 92, 93, 94,
  97, 98, 99, 101, 103, 107, 110, 111, 112, 113, 114, 115, 118, 119, 120, 121, 122, 123, 124, 125, 126, 128, 130, 132, 133, 134, 136, 138, 139, 140, 141, 142, 143, 144, 145, 146, 147, 148,
  149, 150, 154, 155, 159, 160, 161, 163, 168, 169, 170, 171, 172, 173, 174, 176, 178, 183, 184, 185, 186, 187, 188, 190, 191, 193, 194, 195, 196, 201, 202, 204, 205, 207, 208, 210, 211, 212,
  213, 214, 216, 219, 220, 222, 223, 225, 226, 228, 229, 230, 231, 233, 234, 235, 237, 238, 241, 242, 244, 249, 257]
def tys1 : List (Nat × TI) := tyn1.map fun n => (n, ⟨.fn, some .fn, 1, 8, [.nilFunc]⟩)
theorem tyo1 : ∀ n ∈ tyn1, TI.ok Tryz.prog n ⟨.fn, some .fn, 1, 8, [.nilFunc]⟩ := by
  unfold tyn1
  repeat' (first | exact List.forall_mem_nil _ | refine List.forall_mem_cons.2 ⟨⟨⟨_, _, _, rfl⟩, by kernel_rfl, by kernel_rfl, fun k h => by cases h; exact ⟨by kernel_rfl, by kernel_rfl, by kernel_rfl⟩⟩, ?_⟩)
theorem tya1 : ∀ p ∈ tys1, p.2.ok Tryz.prog p.1 := by
  intro p h
  obtain ⟨n, hn, rfl⟩ := List.mem_map.1 h
  exact tyo1 n hn
def tys2 : List (Nat × TI) := [(2, ⟨.int .i64, some (.int .i64), 1, 8, [.int .i64 0]⟩), (3, ⟨.int .i64, some (.int .i64), 1, 8, [.int .i64 0]⟩), (26, ⟨.int .i64, some (.int .i64), 1, 8,
  [.int .i64 0]⟩), (4, ⟨.bool, some .bool, 1, 1, [.bool false]⟩), (5, ⟨.int .u8, some (.int .u8), 1, 1, [.int .u8 0]⟩), (6, ⟨.int .u8, some (.int .u8), 1, 1, [.int .u8 0]⟩), (255, ⟨.int .u8,
  some (.int .u8), 1, 1, [.int .u8 0]⟩), (256, ⟨.int .u8, some (.int .u8), 1, 1, [.int .u8 0]⟩), (9, ⟨.str, some .str, 1, 16, [.string ⟨#[]⟩]⟩), (10, ⟨.str, some .str, 1, 16, [.string
  ⟨#[]⟩]⟩), (11, ⟨.str, some .str, 1, 16, [.string ⟨#[]⟩]⟩), (12, ⟨.int .u64, some (.int .u64), 1, 8, [.int .u64 0]⟩), (180, ⟨.int .u64, some (.int .u64), 1, 8, [.int .u64 0]⟩), (21, ⟨.int
  .i32, some (.int .i32), 1, 4, [.int .i32 0]⟩), (259, ⟨.int .i32, some (.int .i32), 1, 4, [.int .i32 0]⟩), (260, ⟨.int .i32, some (.int .i32), 1, 4, [.int .i32 0]⟩), (22, ⟨.sl 68, some (.sl
  (.pair (.int .i64) .str)), 1, 24, [.slice none 0 0]⟩), (25, ⟨.sl 5, some (.sl (.int .u8)), 1, 24, [.slice none 0 0]⟩), (40, ⟨.arr 20 5, some (.arr 20 (.int .u8)), 20, 20, List.replicate 20
  (.int .u8 0)⟩), (41, ⟨.arr 20 5, some (.arr 20 (.int .u8)), 20, 20, List.replicate 20 (.int .u8 0)⟩), (44, ⟨.sl 59, some (.sl (.pair (.int .i64) .str)), 1, 24, [.slice none 0 0]⟩), (45,
  ⟨.sl 3, some (.sl (.int .i64)), 1, 24, [.slice none 0 0]⟩), (61, ⟨.sl 66, some (.sl (.pair (.int .i64) (.pair .bool (.sl (.int .u8))))), 1, 24, [.slice none 0 0]⟩), (75, ⟨.int .u16, some
  (.int .u16), 1, 2, [.int .u16 0]⟩), (90, ⟨.sl 22, some (.sl (.sl (.pair (.int .i64) .str))), 1, 24, [.slice none 0 0]⟩), (95, ⟨.sl 116, some (.sl (.pair (.int .i64) (.sl (.int .u8)))), 1,
  24, [.slice none 0 0]⟩), (100, ⟨.sl 105, some (.sl (.pair (.int .i64) (.sl (.int .u8)))), 1, 24, [.slice none 0 0]⟩), (108, ⟨.arr 9 3, some (.arr 9 (.int .i64)), 9, 72, List.replicate 9
  (.int .i64 0)⟩), (109, ⟨.sl 25, some (.sl (.sl (.int .u8))), 1, 24, [.slice none 0 0]⟩), (156, ⟨.sl 218, some (.sl (.pair (.int .i64) .str)), 1, 24, [.slice none 0 0]⟩), (157, ⟨.sl 218,
  some (.sl (.pair (.int .i64) .str)), 1, 24, [.slice none 0 0]⟩), (167, ⟨.map 3 165, some (.mp (.pair .fn .str)), 1, 8, [.map none]⟩), (179, ⟨.int .i8, some (.int .i8), 1, 1, [.int .i8 0]⟩),
  (181, ⟨.arr 8 5, some (.arr 8 (.int .u8)), 8, 8, [.int .u8 0, .int .u8 0, .int .u8 0, .int .u8 0, .int .u8 0, .int .u8 0, .int .u8 0, .int .u8 0]⟩), (189, ⟨.sl 9, some (.sl .str), 1, 24,
  [.slice none 0 0]⟩), (239, ⟨.int .u32, some (.int .u32), 1, 4, [.int .u32 0]⟩), (248, ⟨.arr 16 247, some (.arr 16 (.pair (.int .u8) (.int .u8))), 32, 32, List.replicate 32 (.int .u8 0)⟩)]
theorem tya2 : ∀ p ∈ tys2, p.2.ok Tryz.prog p.1 := by
  unfold tys2
  repeat' (first | exact List.forall_mem_nil _ | refine List.forall_mem_cons.2 ⟨⟨(by kernel_rfl : _ = _), by kernel_rfl, by kernel_rfl, fun k h => by cases h; exact ⟨by kernel_rfl, by kernel_rfl, by kernel_rfl⟩⟩, ?_⟩)
def tys3 : List (Nat × TI) := [(7, ⟨.st [(2, 0), (3, 1), (4, 2), (6, 3)], some (.pair (.int .i64) (.pair (.int .i64) (.pair .bool (.int .u8)))), 4, 24, [.int .i64 0, .int .i64 0, .bool
  false, .int .u8 0]⟩), (8, ⟨.st [(2, 0), (3, 1), (4, 2), (6, 3)], some (.pair (.int .i64) (.pair (.int .i64) (.pair .bool (.int .u8)))), 4, 24, [.int .i64 0, .int .i64 0, .bool false, .int
  .u8 0]⟩), (13, ⟨.st [(9, 0), (12, 1)], some (.pair .str (.int .u64)), 2, 24, [.string ⟨#[]⟩, .int .u64 0]⟩), (14, ⟨.st [(9, 0), (12, 1)], some (.pair .str (.int .u64)), 2, 24, [.string
  ⟨#[]⟩, .int .u64 0]⟩), (23, ⟨.st [(22, 0), (22, 1)], some (.pair (.sl (.pair (.int .i64) .str)) (.sl (.pair (.int .i64) .str))), 2, 48, [.slice none 0 0, .slice none 0 0]⟩), (24, ⟨.st [(22,
  0), (22, 1)], some (.pair (.sl (.pair (.int .i64) .str)) (.sl (.pair (.int .i64) .str))), 2, 48, [.slice none 0 0, .slice none 0 0]⟩), (58, ⟨.st [(3, 0), (9, 1)], some (.pair (.int .i64)
  .str), 2, 24, [.int .i64 0, .string ⟨#[]⟩]⟩), (59, ⟨.st [(3, 0), (9, 1)], some (.pair (.int .i64) .str), 2, 24, [.int .i64 0, .string ⟨#[]⟩]⟩), (67, ⟨.st [(3, 0), (9, 1)], some (.pair (.int
  .i64) .str), 2, 24, [.int .i64 0, .string ⟨#[]⟩]⟩), (68, ⟨.st [(3, 0), (9, 1)], some (.pair (.int .i64) .str), 2, 24, [.int .i64 0, .string ⟨#[]⟩]⟩), (217, ⟨.st [(3, 0), (9, 1)], some
  (.pair (.int .i64) .str), 2, 24, [.int .i64 0, .string ⟨#[]⟩]⟩), (218, ⟨.st [(3, 0), (9, 1)], some (.pair (.int .i64) .str), 2, 24, [.int .i64 0, .string ⟨#[]⟩]⟩), (65, ⟨.st [(3, 0), (4,
  1), (25, 2)], some (.pair (.int .i64) (.pair .bool (.sl (.int .u8)))), 3, 40, [.int .i64 0, .bool false, .slice none 0 0]⟩), (66, ⟨.st [(3, 0), (4, 1), (25, 2)], some (.pair (.int .i64)
  (.pair .bool (.sl (.int .u8)))), 3, 40, [.int .i64 0, .bool false, .slice none 0 0]⟩), (70, ⟨.st [(4, 0), (3, 1)], some (.pair .bool (.int .i64)), 2, 16, [.bool false, .int .i64 0]⟩), (71,
  ⟨.st [(4, 0), (3, 1)], some (.pair .bool (.int .i64)), 2, 16, [.bool false, .int .i64 0]⟩), (104, ⟨.st [(3, 0), (25, 1)], some (.pair (.int .i64) (.sl (.int .u8))), 2, 32, [.int .i64 0,
  .slice none 0 0]⟩), (105, ⟨.st [(3, 0), (25, 1)], some (.pair (.int .i64) (.sl (.int .u8))), 2, 32, [.int .i64 0, .slice none 0 0]⟩), (116, ⟨.st [(3, 0), (25, 1)], some (.pair (.int .i64)
  (.sl (.int .u8))), 2, 32, [.int .i64 0, .slice none 0 0]⟩), (164, ⟨.st [(155, 0), (9, 1)], some (.pair .fn .str), 2, 24, [.nilFunc, .string ⟨#[]⟩]⟩), (165, ⟨.st [(155, 0), (9, 1)], some
  (.pair .fn .str), 2, 24, [.nilFunc, .string ⟨#[]⟩]⟩), (197, ⟨.st [(26, 0)], some (.pair (.int .i64) .unit), 1, 8, [.int .i64 0]⟩), (198, ⟨.st [(26, 0)], some (.pair (.int .i64) .unit), 1,
  8, [.int .i64 0]⟩), (246, ⟨.st [(5, 0), (5, 1)], some (.pair (.int .u8) (.int .u8)), 2, 2, [.int .u8 0, .int .u8 0]⟩), (247, ⟨.st [(5, 0), (5, 1)], some (.pair (.int .u8) (.int .u8)), 2, 2,
  [.int .u8 0, .int .u8 0]⟩)]
theorem tya3 : ∀ p ∈ tys3, p.2.ok Tryz.prog p.1 := by
  unfold tys3
  repeat' (first | exact List.forall_mem_nil _ | refine List.forall_mem_cons.2 ⟨⟨⟨by kernel_rfl, by kernel_rfl⟩, by kernel_rfl, by kernel_rfl, fun k h => by cases h; exact ⟨by kernel_rfl, by kernel_rfl, by kernel_rfl⟩⟩, ?_⟩)
def tys4 : List (Nat × TI) := [(15, ⟨.ptr 251, none, 1, 8, [.pointer none]⟩), (16, ⟨.ptr 254, none, 1, 8, [.pointer none]⟩), (17, ⟨.ptr 262, none, 1, 8, [.pointer none]⟩), (245, ⟨.arr 256
  5, none, 256, 256, List.replicate 256 (.int .u8 0)⟩), (252, ⟨.arr 0 16, none, 0, 0, []⟩), (258, ⟨.ptr 5, none, 1, 8, [.pointer none]⟩)]
theorem tya4 : ∀ p ∈ tys4, p.2.ok Tryz.prog p.1 := by
  unfold tys4
  repeat' (first | exact List.forall_mem_nil _ | refine List.forall_mem_cons.2 ⟨⟨(by kernel_rfl : _ = _), by kernel_rfl, by kernel_rfl, fun k h => by cases h⟩, ?_⟩)
def tys5 : List (Nat × TI) := [(18, ⟨.st [(17, 0)], none, 1, 8, [.pointer none]⟩), (19, ⟨.st [(17, 0)], none, 1, 8, [.pointer none]⟩), (151, ⟨.st [], none, 0, 0, []⟩), (152, ⟨.st [], none,
  0, 0, []⟩), (250, ⟨.st [(17, 0), (17, 1), (17, 2), (9, 3)], none, 4, 40, [.pointer none, .pointer none, .pointer none, .string ⟨#[]⟩]⟩), (251, ⟨.st [(17, 0), (17, 1), (17, 2), (9, 3)],
  none, 4, 40, [.pointer none, .pointer none, .pointer none, .string ⟨#[]⟩]⟩), (253, ⟨.st [(252, 0)], none, 0, 0, []⟩), (254, ⟨.st [(252, 0)], none, 0, 0, []⟩), (261, ⟨.st [(12, 0), (12, 1),
  (239, 2), (255, 3), (5, 4), (5, 5), (256, 6), (257, 7), (258, 8), (259, 9), (260, 10)], none, 11, 48, [.int .u64 0, .int .u64 0, .int .u32 0, .int .u8 0, .int .u8 0, .int .u8 0, .int .u8 0,
  .nilFunc, .pointer none, .int .i32 0, .int .i32 0]⟩), (262, ⟨.st [(12, 0), (12, 1), (239, 2), (255, 3), (5, 4), (5, 5), (256, 6), (257, 7), (258, 8), (259, 9), (260, 10)], none, 11, 48,
  [.int .u64 0, .int .u64 0, .int .u32 0, .int .u8 0, .int .u8 0, .int .u8 0, .int .u8 0, .nilFunc, .pointer none, .int .i32 0, .int .i32 0]⟩)]
theorem tya5 : ∀ p ∈ tys5, p.2.ok Tryz.prog p.1 := by
  unfold tys5
  repeat' (first | exact List.forall_mem_nil _ | refine List.forall_mem_cons.2 ⟨⟨⟨by kernel_rfl, by kernel_rfl⟩, by kernel_rfl, by kernel_rfl, fun k h => by cases h⟩, ?_⟩)
def tys6 : List (Nat × TI) := [(20, ⟨.ifc, none, 1, 16, [.nilIface]⟩)]
theorem tya6 : ∀ p ∈ tys6, p.2.ok Tryz.prog p.1 := by
  unfold tys6
  repeat' (first | exact List.forall_mem_nil _ | refine List.forall_mem_cons.2 ⟨⟨⟨_, rfl⟩, by kernel_rfl, by kernel_rfl, fun k h => by cases h⟩, ?_⟩)
def tys : List (Nat × TI) := tys1 ++ tys2 ++ tys3 ++ tys4 ++ tys5 ++ tys6
theorem lookup_mem {l : List (Nat × TI)} {i : Nat} {x : TI} (h : l.lookup i = some x) : (i, x) ∈ l := by
  induction l with
  | nil => cases h
  | cons a l ih =>
    obtain ⟨d, s⟩ := a
    by_cases e : i = d
    . simp [e, List.lookup] at h; simp [e, h]
    . have : (i == d) = false := by simp [e]
      simp only [List.lookup, this] at h; exact List.mem_cons_of_mem _ (ih h)
theorem tya : ∀ p ∈ tys, p.2.ok Tryz.prog p.1 := by
  intro p h
  unfold tys at h
  simp only [List.mem_append] at h
  rcases h with ((((h | h) | h) | h) | h) | h
  . exact tya1 p h
  . exact tya2 p h
  . exact tya3 p h
  . exact tya4 p h
  . exact tya5 p h
  . exact tya6 p h
noncomputable def ty : Ty := ⟨Tryz.prog, tys⟩
theorem tyOk : ty.Ok := fun t i h => tya (t, i) (lookup_mem h)
end Go.Proofs.YtiofbnlbfmbodaaGreatDoor
