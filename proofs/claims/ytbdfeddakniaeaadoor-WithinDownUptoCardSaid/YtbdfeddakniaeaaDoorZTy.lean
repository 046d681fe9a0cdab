import Derived.Test.YtbdfeddakniaeaaDoorProg
import Derived.Test.YtbdfeddakniaeaaDoorZV05
namespace Go.Proofs.YtbdfeddakniaeaaDoor
set_option maxRecDepth 100000
open Go Go.Vc Go.Proofs
def tyn1 : List Nat := [1, 27, 29, 30, 31, 33, 34, 35, 36, 37, 38, 41, 42, 44, 45, 46, 48, 50, 51, 52, 54, 55, 60, 61, 63, 65, 66, 67, 68, 72, 75, 77, 78, 79, 80, 82, 84, 85, 86, 87, 88,
  89, 90, 91, 94, 95, 96, 98, 99, 100, 101, 103, 106, 108, 109, 110, 111, 113, 114, 115, 116, 117, 118, 122, 126, 128, 129, 130, 131, 133, 135, 136, 137, 138, 139, 140, 141, 142, 143, 144,
  148, 150, 154, 157, 158, 159, 162, 163, 168, 169, 170, 172, 173, 174, 175, 176, 178, 182, 183, 185, 186, 187, 188, 190, 191, 192, 193, 194, 198, 199, 201, 204, 209, 212, 213, 223]
def tys1 : List (Nat × TI) := tyn1.map fun n => (n, ⟨.fn, some .fn, 1, 8, [.nilFunc]⟩)
theorem tyo1 : ∀ n ∈ tyn1, TI.ok Tryd.prog n ⟨.fn, some .fn, 1, 8, [.nilFunc]⟩ := by
  unfold tyn1
  repeat' (first | exact List.forall_mem_nil _ | refine List.forall_mem_cons.2 ⟨⟨⟨_, _, _, rfl⟩, by kernel_rfl, by kernel_rfl, fun k h => by cases h; exact ⟨by kernel_rfl, by kernel_rfl, by kernel_rfl⟩⟩, ?_⟩)
theorem tya1 : ∀ p ∈ tys1, p.2.ok Tryd.prog p.1 := by
  intro p h
  obtain ⟨n, hn, rfl⟩ := List.mem_map.1 h
  exact tyo1 n hn
def tys2 : List (Nat × TI) := [(2, ⟨.int .i64, some (.int .i64), 1, 8, [.int .i64 0]⟩), (3, ⟨.int .i64, some (.int .i64), 1, 8, [.int .i64 0]⟩), (25, ⟨.int .i64, some (.int .i64), 1, 8,
  [.int .i64 0]⟩), (4, ⟨.bool, some .bool, 1, 1, [.bool false]⟩), (5, ⟨.int .u8, some (.int .u8), 1, 1, [.int .u8 0]⟩), (6, ⟨.int .u8, some (.int .u8), 1, 1, [.int .u8 0]⟩), (221, ⟨.int .u8,
  some (.int .u8), 1, 1, [.int .u8 0]⟩), (222, ⟨.int .u8, some (.int .u8), 1, 1, [.int .u8 0]⟩), (9, ⟨.str, some .str, 1, 16, [.string ⟨#[]⟩]⟩), (10, ⟨.str, some .str, 1, 16, [.string
  ⟨#[]⟩]⟩), (11, ⟨.str, some .str, 1, 16, [.string ⟨#[]⟩]⟩), (12, ⟨.int .u64, some (.int .u64), 1, 8, [.int .u64 0]⟩), (146, ⟨.int .u64, some (.int .u64), 1, 8, [.int .u64 0]⟩), (195, ⟨.int
  .u64, some (.int .u64), 1, 8, [.int .u64 0]⟩), (21, ⟨.int .i32, some (.int .i32), 1, 4, [.int .i32 0]⟩), (224, ⟨.int .i32, some (.int .i32), 1, 4, [.int .i32 0]⟩), (225, ⟨.int .i32, some
  (.int .i32), 1, 4, [.int .i32 0]⟩), (22, ⟨.sl 58, some (.sl (.pair (.int .i64) .str)), 1, 24, [.slice none 0 0]⟩), (23, ⟨.sl 58, some (.sl (.pair (.int .i64) .str)), 1, 24, [.slice none 0
  0]⟩), (24, ⟨.sl 5, some (.sl (.int .u8)), 1, 24, [.slice none 0 0]⟩), (56, ⟨.sl 24, some (.sl (.sl (.int .u8))), 1, 24, [.slice none 0 0]⟩), (62, ⟨.sl 3, some (.sl (.int .i64)), 1, 24,
  [.slice none 0 0]⟩), (64, ⟨.sl 9, some (.sl .str), 1, 24, [.slice none 0 0]⟩), (73, ⟨.sl 70, some (.sl (.pair (.int .i64) (.sl (.int .u8)))), 1, 24, [.slice none 0 0]⟩), (92, ⟨.arr 4 4,
  some (.arr 4 .bool), 4, 4, [.bool false, .bool false, .bool false, .bool false]⟩), (102, ⟨.sl 107, some (.sl (.pair (.int .i64) (.sl (.int .u8)))), 1, 24, [.slice none 0 0]⟩), (104, ⟨.arr 5
  3, some (.arr 5 (.int .i64)), 5, 40, [.int .i64 0, .int .i64 0, .int .i64 0, .int .i64 0, .int .i64 0]⟩), (112, ⟨.arr 4 111, some (.arr 4 .fn), 4, 32, [.nilFunc, .nilFunc, .nilFunc,
  .nilFunc]⟩), (145, ⟨.int .i8, some (.int .i8), 1, 1, [.int .i8 0]⟩), (177, ⟨.arr 8 5, some (.arr 8 (.int .u8)), 8, 8, [.int .u8 0, .int .u8 0, .int .u8 0, .int .u8 0, .int .u8 0, .int .u8
  0, .int .u8 0, .int .u8 0]⟩), (196, ⟨.arr 12 3, some (.arr 12 (.int .i64)), 12, 96, List.replicate 12 (.int .i64 0)⟩), (197, ⟨.arr 24 5, some (.arr 24 (.int .u8)), 24, 24, List.replicate 24
  (.int .u8 0)⟩), (202, ⟨.int .u32, some (.int .u32), 1, 4, [.int .u32 0]⟩), (208, ⟨.arr 16 207, some (.arr 16 (.pair (.int .u8) (.int .u8))), 32, 32, List.replicate 32 (.int .u8 0)⟩), (210,
  ⟨.arr 20 195, some (.arr 20 (.int .u64)), 20, 160, List.replicate 20 (.int .u64 0)⟩), (214, ⟨.arr 32 5, some (.arr 32 (.int .u8)), 32, 32, List.replicate 32 (.int .u8 0)⟩), (215, ⟨.arr 64
  5, some (.arr 64 (.int .u8)), 64, 64, List.replicate 64 (.int .u8 0)⟩)]
theorem tya2 : ∀ p ∈ tys2, p.2.ok Tryd.prog p.1 := by
  unfold tys2
  repeat' (first | exact List.forall_mem_nil _ | refine List.forall_mem_cons.2 ⟨⟨(by kernel_rfl : _ = _), by kernel_rfl, by kernel_rfl, fun k h => by cases h; exact ⟨by kernel_rfl, by kernel_rfl, by kernel_rfl⟩⟩, ?_⟩)
def tys3 : List (Nat × TI) := [(7, ⟨.st [(2, 0), (3, 1), (4, 2), (6, 3)], some (.pair (.int .i64) (.pair (.int .i64) (.pair .bool (.int .u8)))), 4, 24, [.int .i64 0, .int .i64 0, .bool
  false, .int .u8 0]⟩), (8, ⟨.st [(2, 0), (3, 1), (4, 2), (6, 3)], some (.pair (.int .i64) (.pair (.int .i64) (.pair .bool (.int .u8)))), 4, 24, [.int .i64 0, .int .i64 0, .bool false, .int
  .u8 0]⟩), (13, ⟨.st [(9, 0), (12, 1)], some (.pair .str (.int .u64)), 2, 24, [.string ⟨#[]⟩, .int .u64 0]⟩), (14, ⟨.st [(9, 0), (12, 1)], some (.pair .str (.int .u64)), 2, 24, [.string
  ⟨#[]⟩, .int .u64 0]⟩), (39, ⟨.st [(3, 0), (24, 1), (3, 2), (3, 3), (3, 4), (24, 5)], some (.pair (.int .i64) (.pair (.sl (.int .u8)) (.pair (.int .i64) (.pair (.int .i64) (.pair (.int .i64)
  (.sl (.int .u8))))))), 6, 80, [.int .i64 0, .slice none 0 0, .int .i64 0, .int .i64 0, .int .i64 0, .slice none 0 0]⟩), (40, ⟨.st [(3, 0), (24, 1), (3, 2), (3, 3), (3, 4), (24, 5)], some
  (.pair (.int .i64) (.pair (.sl (.int .u8)) (.pair (.int .i64) (.pair (.int .i64) (.pair (.int .i64) (.sl (.int .u8))))))), 6, 80, [.int .i64 0, .slice none 0 0, .int .i64 0, .int .i64 0,
  .int .i64 0, .slice none 0 0]⟩), (57, ⟨.st [(3, 0), (9, 1)], some (.pair (.int .i64) .str), 2, 24, [.int .i64 0, .string ⟨#[]⟩]⟩), (58, ⟨.st [(3, 0), (9, 1)], some (.pair (.int .i64) .str),
  2, 24, [.int .i64 0, .string ⟨#[]⟩]⟩), (69, ⟨.st [(3, 0), (24, 1)], some (.pair (.int .i64) (.sl (.int .u8))), 2, 32, [.int .i64 0, .slice none 0 0]⟩), (70, ⟨.st [(3, 0), (24, 1)], some
  (.pair (.int .i64) (.sl (.int .u8))), 2, 32, [.int .i64 0, .slice none 0 0]⟩), (107, ⟨.st [(3, 0), (24, 1)], some (.pair (.int .i64) (.sl (.int .u8))), 2, 32, [.int .i64 0, .slice none 0
  0]⟩), (151, ⟨.st [(3, 0), (3, 1), (3, 2), (3, 3), (3, 4), (3, 5)], some (.pair (.int .i64) (.pair (.int .i64) (.pair (.int .i64) (.pair (.int .i64) (.pair (.int .i64) (.int .i64)))))), 6,
  48, [.int .i64 0, .int .i64 0, .int .i64 0, .int .i64 0, .int .i64 0, .int .i64 0]⟩), (152, ⟨.st [(3, 0), (3, 1), (3, 2), (3, 3), (3, 4), (3, 5)], some (.pair (.int .i64) (.pair (.int .i64)
  (.pair (.int .i64) (.pair (.int .i64) (.pair (.int .i64) (.int .i64)))))), 6, 48, [.int .i64 0, .int .i64 0, .int .i64 0, .int .i64 0, .int .i64 0, .int .i64 0]⟩), (155, ⟨.st [(3, 0), (3,
  1), (3, 2), (3, 3), (3, 4), (3, 5)], some (.pair (.int .i64) (.pair (.int .i64) (.pair (.int .i64) (.pair (.int .i64) (.pair (.int .i64) (.int .i64)))))), 6, 48, [.int .i64 0, .int .i64 0,
  .int .i64 0, .int .i64 0, .int .i64 0, .int .i64 0]⟩), (164, ⟨.st [(25, 0)], some (.pair (.int .i64) .unit), 1, 8, [.int .i64 0]⟩), (165, ⟨.st [(25, 0)], some (.pair (.int .i64) .unit), 1,
  8, [.int .i64 0]⟩), (206, ⟨.st [(5, 0), (5, 1)], some (.pair (.int .u8) (.int .u8)), 2, 2, [.int .u8 0, .int .u8 0]⟩), (207, ⟨.st [(5, 0), (5, 1)], some (.pair (.int .u8) (.int .u8)), 2, 2,
  [.int .u8 0, .int .u8 0]⟩)]
theorem tya3 : ∀ p ∈ tys3, p.2.ok Tryd.prog p.1 := by
  unfold tys3
  repeat' (first | exact List.forall_mem_nil _ | refine List.forall_mem_cons.2 ⟨⟨⟨by kernel_rfl, by kernel_rfl⟩, by kernel_rfl, by kernel_rfl, fun k h => by cases h; exact ⟨by kernel_rfl, by kernel_rfl, by kernel_rfl⟩⟩, ?_⟩)
def tys4 : List (Nat × TI) := [(15, ⟨.ptr 217, none, 1, 8, [.pointer none]⟩), (16, ⟨.ptr 220, none, 1, 8, [.pointer none]⟩), (17, ⟨.ptr 227, none, 1, 8, [.pointer none]⟩), (119, ⟨.ptr 121,
  none, 1, 8, [.pointer none]⟩), (160, ⟨.ptr 5, none, 1, 8, [.pointer none]⟩), (179, ⟨.arr 256 4, none, 256, 256, List.replicate 256 (.bool false)⟩), (180, ⟨.arr 256 4, none, 256, 256,
  List.replicate 256 (.bool false)⟩), (184, ⟨.ptr 180, none, 1, 8, [.pointer none]⟩), (205, ⟨.arr 256 5, none, 256, 256, List.replicate 256 (.int .u8 0)⟩), (211, ⟨.arr 65 5, none, 65, 65,
  List.replicate 65 (.int .u8 0)⟩), (218, ⟨.arr 0 16, none, 0, 0, []⟩)]
theorem tya4 : ∀ p ∈ tys4, p.2.ok Tryd.prog p.1 := by
  unfold tys4
  repeat' (first | exact List.forall_mem_nil _ | refine List.forall_mem_cons.2 ⟨⟨(by kernel_rfl : _ = _), by kernel_rfl, by kernel_rfl, fun k h => by cases h⟩, ?_⟩)
def tys5 : List (Nat × TI) := [(18, ⟨.st [(17, 0)], none, 1, 8, [.pointer none]⟩), (19, ⟨.st [(17, 0)], none, 1, 8, [.pointer none]⟩), (120, ⟨.st [(119, 0), (24, 1)], none, 2, 32, [.pointer
  none, .slice none 0 0]⟩), (121, ⟨.st [(119, 0), (24, 1)], none, 2, 32, [.pointer none, .slice none 0 0]⟩), (216, ⟨.st [(17, 0), (17, 1), (17, 2), (9, 3)], none, 4, 40, [.pointer none,
  .pointer none, .pointer none, .string ⟨#[]⟩]⟩), (217, ⟨.st [(17, 0), (17, 1), (17, 2), (9, 3)], none, 4, 40, [.pointer none, .pointer none, .pointer none, .string ⟨#[]⟩]⟩), (219, ⟨.st
  [(218, 0)], none, 0, 0, []⟩), (220, ⟨.st [(218, 0)], none, 0, 0, []⟩), (226, ⟨.st [(12, 0), (12, 1), (202, 2), (221, 3), (5, 4), (5, 5), (222, 6), (223, 7), (160, 8), (224, 9), (225, 10)],
  none, 11, 48, [.int .u64 0, .int .u64 0, .int .u32 0, .int .u8 0, .int .u8 0, .int .u8 0, .int .u8 0, .nilFunc, .pointer none, .int .i32 0, .int .i32 0]⟩), (227, ⟨.st [(12, 0), (12, 1),
  (202, 2), (221, 3), (5, 4), (5, 5), (222, 6), (223, 7), (160, 8), (224, 9), (225, 10)], none, 11, 48, [.int .u64 0, .int .u64 0, .int .u32 0, .int .u8 0, .int .u8 0, .int .u8 0, .int .u8 0,
  .nilFunc, .pointer none, .int .i32 0, .int .i32 0]⟩)]
theorem tya5 : ∀ p ∈ tys5, p.2.ok Tryd.prog p.1 := by
  unfold tys5
  repeat' (first | exact List.forall_mem_nil _ | refine List.forall_mem_cons.2 ⟨⟨⟨by kernel_rfl, by kernel_rfl⟩, by kernel_rfl, by kernel_rfl, fun k h => by cases h⟩, ?_⟩)
def tys6 : List (Nat × TI) := [(20, ⟨.ifc, none, 1, 16, [.nilIface]⟩), (123, ⟨.ifc, none, 1, 16, [.nilIface]⟩), (124, ⟨.ifc, none, 1, 16, [.nilIface]⟩)]
theorem tya6 : ∀ p ∈ tys6, p.2.ok Tryd.prog p.1 := by
  unfold tys6
  repeat' (first | exact List.forall_mem_nil _ | refine List.forall_mem_cons.2 ⟨⟨⟨_, rfl⟩, by kernel_rfl, by kernel_rfl, fun k h => by cases h⟩, ?_⟩)
def tys : List (Nat × TI) := tys1 ++ tys2 ++ tys3 ++ tys4 ++ tys5 ++ tys6
theorem lookup_mem {l : List (Nat × TI)} {i : Nat} {x : TI} (h : l.lookup i = some x) : (i, x) ∈ l := by
  induction l with
  | nil => cases h
  | cons a l ih =>
    obtain ⟨d, s⟩ := a
    by_cases e : i = d
    . simp [e, List.lookup] at h; simp [e, h]
    . have : (i == d) = false := by simp [e]
      simp only [List.lookup, this] at h; exact List.mem_cons_of_mem _ (ih h)
theorem tya : ∀ p ∈ tys, p.2.ok Tryd.prog p.1 := by
  intro p h
  unfold tys at h
  simp only [List.mem_append] at h
  rcases h with ((((h | h) | h) | h) | h) | h
  . exact tya1 p h
  . exact tya2 p h
  . exact tya3 p h
  . exact tya4 p h
  . exact tya5 p h
  . exact tya6 p h
noncomputable def ty : Ty := ⟨Tryd.prog, tys⟩
theorem tyOk : ty.Ok := fun t i h => tya (t, i) (lookup_mem h)
end Go.Proofs.YtbdfeddakniaeaaDoor
