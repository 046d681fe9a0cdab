import Derived.Test.YtlpbhgcndebkcaaGreatDoorProg
import Derived.Test.YtlpbhgcndebkcaaGreatDoorZV05
namespace Go.Proofs.YtlpbhgcndebkcaaGreatDoor
set_option maxRecDepth 100000
open Go Go.Vc Go.Proofs
def tyn1 : List Nat := [1, 26, 28, 29, 30, 32, 34, 35, 36, 40, 44, 46, 49, 50, 53, 54, 55, 56, 58, 59, 60, 62, 63, 65, 66, 70, 73, 77, 78, 80, 81, 84, 85, 86, 87, 88, 89, 90, 91, 92, 94,
  95, 96, 97, 98, 99, 100, 103, 104, 105, 106, 108, 109, 111, 112, 113, 114, 115, 117, 119, 120, 121, 125, 129, 130, 132, 135, 136, 137, 138, 139, 140, 141, 142, 143, 144, 145, 147, 148, 149,
  153, 154, 155, 158, 159, 162, 163, 164, 165, 167, 168, 170, 172, 174, 176, 178, 180, 181, 182, 184, 185, 187, 189, 190, 200, 203]
def tys1 : List (Nat × TI) := tyn1.map fun n => (n, ⟨.fn, some .fn, 1, 8, [.nilFunc]⟩)
theorem tyo1 : ∀ n ∈ tyn1, TI.ok Tryz.prog n ⟨.fn, some .fn, 1, 8, [.nilFunc]⟩ := by
  unfold tyn1
  repeat' (first | exact List.forall_mem_nil _ | refine List.forall_mem_cons.2 ⟨⟨⟨_, _, _, rfl⟩, by kernel_rfl, by kernel_rfl, fun k h => by cases h; exact ⟨by kernel_rfl, by kernel_rfl, by kernel_rfl⟩⟩, ?_⟩)
theorem tya1 : ∀ p ∈ tys1, p.2.ok Tryz.prog p.1 := by
  intro p h
  obtain ⟨n, hn, rfl⟩ := List.mem_map.1 h
  exact tyo1 n hn
def tys2 : List (Nat × TI) := [(2, ⟨.int .i64, some (.int .i64), 1, 8, [.int .i64 0]⟩), (3, ⟨.int .i64, some (.int .i64), 1, 8, [.int .i64 0]⟩), (24, ⟨.int .i64, some (.int .i64), 1, 8,
  [.int .i64 0]⟩), (160, ⟨.int .i64, some (.int .i64), 1, 8, [.int .i64 0]⟩), (4, ⟨.bool, some .bool, 1, 1, [.bool false]⟩), (5, ⟨.int .u8, some (.int .u8), 1, 1, [.int .u8 0]⟩), (6, ⟨.int
  .u8, some (.int .u8), 1, 1, [.int .u8 0]⟩), (201, ⟨.int .u8, some (.int .u8), 1, 1, [.int .u8 0]⟩), (202, ⟨.int .u8, some (.int .u8), 1, 1, [.int .u8 0]⟩), (9, ⟨.str, some .str, 1, 16,
  [.string ⟨#[]⟩]⟩), (10, ⟨.str, some .str, 1, 16, [.string ⟨#[]⟩]⟩), (11, ⟨.str, some .str, 1, 16, [.string ⟨#[]⟩]⟩), (12, ⟨.int .u64, some (.int .u64), 1, 8, [.int .u64 0]⟩), (47, ⟨.int
  .u64, some (.int .u64), 1, 8, [.int .u64 0]⟩), (171, ⟨.int .u64, some (.int .u64), 1, 8, [.int .u64 0]⟩), (179, ⟨.int .u64, some (.int .u64), 1, 8, [.int .u64 0]⟩), (21, ⟨.int .i32, some
  (.int .i32), 1, 4, [.int .i32 0]⟩), (204, ⟨.int .i32, some (.int .i32), 1, 4, [.int .i32 0]⟩), (205, ⟨.int .i32, some (.int .i32), 1, 4, [.int .i32 0]⟩), (39, ⟨.map 3 38, some (.mp (.pair
  .fn .str)), 1, 8, [.map none]⟩), (41, ⟨.sl 75, some (.sl (.pair (.int .i64) .str)), 1, 24, [.slice none 0 0]⟩), (42, ⟨.sl 75, some (.sl (.pair (.int .i64) .str)), 1, 24, [.slice none 0
  0]⟩), (45, ⟨.sl 5, some (.sl (.int .u8)), 1, 24, [.slice none 0 0]⟩), (52, ⟨.sl 3, some (.sl (.int .i64)), 1, 24, [.slice none 0 0]⟩), (71, ⟨.sl 68, some (.sl (.pair (.int .i64) (.sl (.int
  .u8)))), 1, 24, [.slice none 0 0]⟩), (79, ⟨.sl 9, some (.sl .str), 1, 24, [.slice none 0 0]⟩), (101, ⟨.sl 45, some (.sl (.sl (.int .u8))), 1, 24, [.slice none 0 0]⟩), (133, ⟨.sl 82, some
  (.sl (.pair (.int .i64) (.sl (.int .u8)))), 1, 24, [.slice none 0 0]⟩), (169, ⟨.int .u32, some (.int .u32), 1, 4, [.int .u32 0]⟩), (194, ⟨.arr 16 193, some (.arr 16 (.pair (.int .u8) (.int
  .u8))), 32, 32, List.replicate 32 (.int .u8 0)⟩)]
theorem tya2 : ∀ p ∈ tys2, p.2.ok Tryz.prog p.1 := by
  unfold tys2
  repeat' (first | exact List.forall_mem_nil _ | refine List.forall_mem_cons.2 ⟨⟨(by kernel_rfl : _ = _), by kernel_rfl, by kernel_rfl, fun k h => by cases h; exact ⟨by kernel_rfl, by kernel_rfl, by kernel_rfl⟩⟩, ?_⟩)
def tys3 : List (Nat × TI) := [(7, ⟨.st [(2, 0), (3, 1), (4, 2), (6, 3)], some (.pair (.int .i64) (.pair (.int .i64) (.pair .bool (.int .u8)))), 4, 24, [.int .i64 0, .int .i64 0, .bool
  false, .int .u8 0]⟩), (8, ⟨.st [(2, 0), (3, 1), (4, 2), (6, 3)], some (.pair (.int .i64) (.pair (.int .i64) (.pair .bool (.int .u8)))), 4, 24, [.int .i64 0, .int .i64 0, .bool false, .int
  .u8 0]⟩), (13, ⟨.st [(9, 0), (12, 1)], some (.pair .str (.int .u64)), 2, 24, [.string ⟨#[]⟩, .int .u64 0]⟩), (14, ⟨.st [(9, 0), (12, 1)], some (.pair .str (.int .u64)), 2, 24, [.string
  ⟨#[]⟩, .int .u64 0]⟩), (22, ⟨.st [(3, 0), (9, 1)], some (.pair (.int .i64) .str), 2, 24, [.int .i64 0, .string ⟨#[]⟩]⟩), (23, ⟨.st [(3, 0), (9, 1)], some (.pair (.int .i64) .str), 2, 24,
  [.int .i64 0, .string ⟨#[]⟩]⟩), (74, ⟨.st [(3, 0), (9, 1)], some (.pair (.int .i64) .str), 2, 24, [.int .i64 0, .string ⟨#[]⟩]⟩), (75, ⟨.st [(3, 0), (9, 1)], some (.pair (.int .i64) .str),
  2, 24, [.int .i64 0, .string ⟨#[]⟩]⟩), (37, ⟨.st [(35, 0), (9, 1)], some (.pair .fn .str), 2, 24, [.nilFunc, .string ⟨#[]⟩]⟩), (38, ⟨.st [(35, 0), (9, 1)], some (.pair .fn .str), 2, 24,
  [.nilFunc, .string ⟨#[]⟩]⟩), (67, ⟨.st [(3, 0), (45, 1)], some (.pair (.int .i64) (.sl (.int .u8))), 2, 32, [.int .i64 0, .slice none 0 0]⟩), (68, ⟨.st [(3, 0), (45, 1)], some (.pair (.int
  .i64) (.sl (.int .u8))), 2, 32, [.int .i64 0, .slice none 0 0]⟩), (82, ⟨.st [(3, 0), (45, 1)], some (.pair (.int .i64) (.sl (.int .u8))), 2, 32, [.int .i64 0, .slice none 0 0]⟩), (150, ⟨.st
  [(24, 0)], some (.pair (.int .i64) .unit), 1, 8, [.int .i64 0]⟩), (151, ⟨.st [(24, 0)], some (.pair (.int .i64) .unit), 1, 8, [.int .i64 0]⟩), (192, ⟨.st [(5, 0), (5, 1)], some (.pair (.int
  .u8) (.int .u8)), 2, 2, [.int .u8 0, .int .u8 0]⟩), (193, ⟨.st [(5, 0), (5, 1)], some (.pair (.int .u8) (.int .u8)), 2, 2, [.int .u8 0, .int .u8 0]⟩)]
theorem tya3 : ∀ p ∈ tys3, p.2.ok Tryz.prog p.1 := by
  unfold tys3
  repeat' (first | exact List.forall_mem_nil _ | refine List.forall_mem_cons.2 ⟨⟨⟨by kernel_rfl, by kernel_rfl⟩, by kernel_rfl, by kernel_rfl, fun k h => by cases h; exact ⟨by kernel_rfl, by kernel_rfl, by kernel_rfl⟩⟩, ?_⟩)
def tys4 : List (Nat × TI) := [(15, ⟨.ptr 196, none, 1, 8, [.pointer none]⟩), (16, ⟨.ptr 199, none, 1, 8, [.pointer none]⟩), (17, ⟨.ptr 207, none, 1, 8, [.pointer none]⟩), (122, ⟨.ptr 124,
  none, 1, 8, [.pointer none]⟩), (156, ⟨.ptr 5, none, 1, 8, [.pointer none]⟩), (183, ⟨.ptr 3, none, 1, 8, [.pointer none]⟩), (188, ⟨.ptr 179, none, 1, 8, [.pointer none]⟩), (191, ⟨.arr 256 5,
  none, 256, 256, List.replicate 256 (.int .u8 0)⟩), (197, ⟨.arr 0 16, none, 0, 0, []⟩)]
theorem tya4 : ∀ p ∈ tys4, p.2.ok Tryz.prog p.1 := by
  unfold tys4
  repeat' (first | exact List.forall_mem_nil _ | refine List.forall_mem_cons.2 ⟨⟨(by kernel_rfl : _ = _), by kernel_rfl, by kernel_rfl, fun k h => by cases h⟩, ?_⟩)
def tys5 : List (Nat × TI) := [(18, ⟨.st [(17, 0)], none, 1, 8, [.pointer none]⟩), (19, ⟨.st [(17, 0)], none, 1, 8, [.pointer none]⟩), (123, ⟨.st [(122, 0), (45, 1)], none, 2, 32, [.pointer
  none, .slice none 0 0]⟩), (124, ⟨.st [(122, 0), (45, 1)], none, 2, 32, [.pointer none, .slice none 0 0]⟩), (195, ⟨.st [(17, 0), (17, 1), (17, 2), (9, 3)], none, 4, 40, [.pointer none,
  .pointer none, .pointer none, .string ⟨#[]⟩]⟩), (196, ⟨.st [(17, 0), (17, 1), (17, 2), (9, 3)], none, 4, 40, [.pointer none, .pointer none, .pointer none, .string ⟨#[]⟩]⟩), (198, ⟨.st
  [(197, 0)], none, 0, 0, []⟩), (199, ⟨.st [(197, 0)], none, 0, 0, []⟩), (206, ⟨.st [(12, 0), (12, 1), (169, 2), (201, 3), (5, 4), (5, 5), (202, 6), (203, 7), (156, 8), (204, 9), (205, 10)],
  none, 11, 48, [.int .u64 0, .int .u64 0, .int .u32 0, .int .u8 0, .int .u8 0, .int .u8 0, .int .u8 0, .nilFunc, .pointer none, .int .i32 0, .int .i32 0]⟩), (207, ⟨.st [(12, 0), (12, 1),
  (169, 2), (201, 3), (5, 4), (5, 5), (202, 6), (203, 7), (156, 8), (204, 9), (205, 10)], none, 11, 48, [.int .u64 0, .int .u64 0, .int .u32 0, .int .u8 0, .int .u8 0, .int .u8 0, .int .u8 0,
  .nilFunc, .pointer none, .int .i32 0, .int .i32 0]⟩)]
theorem tya5 : ∀ p ∈ tys5, p.2.ok Tryz.prog p.1 := by
  unfold tys5
  repeat' (first | exact List.forall_mem_nil _ | refine List.forall_mem_cons.2 ⟨⟨⟨by kernel_rfl, by kernel_rfl⟩, by kernel_rfl, by kernel_rfl, fun k h => by cases h⟩, ?_⟩)
def tys6 : List (Nat × TI) := [(20, ⟨.ifc, none, 1, 16, [.nilIface]⟩), (126, ⟨.ifc, none, 1, 16, [.nilIface]⟩), (127, ⟨.ifc, none, 1, 16, [.nilIface]⟩)]
theorem tya6 : ∀ p ∈ tys6, p.2.ok Tryz.prog p.1 := by
  unfold tys6
  repeat' (first | exact List.forall_mem_nil _ | refine List.forall_mem_cons.2 ⟨⟨⟨_, rfl⟩, by kernel_rfl, by kernel_rfl, fun k h => by cases h⟩, ?_⟩)
def tys : List (Nat × TI) := tys1 ++ tys2 ++ tys3 ++ tys4 ++ tys5 ++ tys6
theorem lookup_mem {l : List (Nat × TI)} {i : Nat} {x : TI} (h : l.lookup i = some x) : (i, x) ∈ l := by
  induction l with
  | nil => cases h
  | cons a l ih =>
    obtain ⟨d, s⟩ := a
    by_cases e : i = d
    . simp [e, List.lookup] at h; simp [e, h]
    . have : (i == d) = false := by simp [e]
      simp only [List.lookup, this] at h; exact List.mem_cons_of_mem _ (ih h)
theorem tya : ∀ p ∈ tys, p.2.ok Tryz.prog p.1 := by
  intro p h
  unfold tys at h
  simp only [List.mem_append] at h
  rcases h with ((((h | h) | h) | h) | h) | h
  . exact tya1 p h
  . exact tya2 p h
  . exact tya3 p h
  . exact tya4 p h
  . exact tya5 p h
  . exact tya6 p h
noncomputable def ty : Ty := ⟨Tryz.prog, tys⟩
theorem tyOk : ty.Ok := fun t i h => tya (t, i) (lookup_mem h)
end Go.Proofs.YtlpbhgcndebkcaaGreatDoor
