import Derived.Test.YtbdfeddakniaeaaProg
import Derived.Test.YtbdfeddakniaeaaZV05
namespace Go.Proofs.Ytbdfeddakniaeaa
set_option maxRecDepth 100000
open Go Go.Vc Go.Proofs
def tyn1 : List Nat := [1, 30, 32, 33, 34, 35, 36, 37, 38, 39, 40, 41, 42, 44, 46, 48, 50, 52, 54, 56, 58, 59, 60, 63, 65, 66, 69, 70, 72, 73, 76, 77, 78, 79, 80, 83, 84, 85, 86, 87, 88,
  89, 90, 92, 95, 96, 98, 100, 101, 102, 103, 104, 105, 106, 110, 112, 113, 114, 115, 116, 119, 121, 122, 123, 124, 126, 129, 130, 131, 132, 133, 134, 135, 136, 138, 139, 140, 141, 142, 143,
  145, 146, 147, 148, 154, 156, 158, 159, 160, 161, 162, 164, 166, 167, 169, 170, 171, 172, 173, 174, 176, 177, 179, 183, 184, 185, 187, 188, 189, 198]
def tys1 : List (Nat × TI) := tyn1.map fun n => (n, ⟨.fn, some .fn, 1, 8, [.nilFunc]⟩)
theorem tyo1 : ∀ n ∈ tyn1, TI.ok Try.prog n ⟨.fn, some .fn, 1, 8, [.nilFunc]⟩ := by
  unfold tyn1
  repeat' (first | exact List.forall_mem_nil _ | refine List.forall_mem_cons.2 ⟨⟨⟨_, _, _, rfl⟩, by kernel_rfl, by kernel_rfl, fun k h => by cases h; exact ⟨by kernel_rfl, by kernel_rfl, by kernel_rfl⟩⟩, ?_⟩)
theorem tya1 : ∀ p ∈ tys1, p.2.ok Try.prog p.1 := by
  intro p h
  obtain ⟨n, hn, rfl⟩ := List.mem_map.1 h
  exact tyo1 n hn
def tys2 : List (Nat × TI) := [(2, ⟨.int .i64, some (.int .i64), 1, 8, [.int .i64 0]⟩), (3, ⟨.int .i64, some (.int .i64), 1, 8, [.int .i64 0]⟩), (28, ⟨.int .i64, some (.int .i64), 1, 8,
  [.int .i64 0]⟩), (4, ⟨.bool, some .bool, 1, 1, [.bool false]⟩), (5, ⟨.int .u8, some (.int .u8), 1, 1, [.int .u8 0]⟩), (6, ⟨.int .u8, some (.int .u8), 1, 1, [.int .u8 0]⟩), (196, ⟨.int .u8,
  some (.int .u8), 1, 1, [.int .u8 0]⟩), (197, ⟨.int .u8, some (.int .u8), 1, 1, [.int .u8 0]⟩), (9, ⟨.str, some .str, 1, 16, [.string ⟨#[]⟩]⟩), (10, ⟨.str, some .str, 1, 16, [.string
  ⟨#[]⟩]⟩), (11, ⟨.str, some .str, 1, 16, [.string ⟨#[]⟩]⟩), (12, ⟨.int .u64, some (.int .u64), 1, 8, [.int .u64 0]⟩), (149, ⟨.int .u64, some (.int .u64), 1, 8, [.int .u64 0]⟩), (175, ⟨.int
  .u64, some (.int .u64), 1, 8, [.int .u64 0]⟩), (21, ⟨.int .i32, some (.int .i32), 1, 4, [.int .i32 0]⟩), (200, ⟨.int .i32, some (.int .i32), 1, 4, [.int .i32 0]⟩), (201, ⟨.int .i32, some
  (.int .i32), 1, 4, [.int .i32 0]⟩), (24, ⟨.int .u16, some (.int .u16), 1, 2, [.int .u16 0]⟩), (25, ⟨.arr 20 5, some (.arr 20 (.int .u8)), 20, 20, List.replicate 20 (.int .u8 0)⟩), (26,
  ⟨.arr 20 5, some (.arr 20 (.int .u8)), 20, 20, List.replicate 20 (.int .u8 0)⟩), (27, ⟨.sl 5, some (.sl (.int .u8)), 1, 24, [.slice none 0 0]⟩), (61, ⟨.sl 68, some (.sl (.pair (.int .i64)
  (.pair .bool (.sl (.int .u8))))), 1, 24, [.slice none 0 0]⟩), (74, ⟨.sl 27, some (.sl (.sl (.int .u8))), 1, 24, [.slice none 0 0]⟩), (91, ⟨.arr 9 3, some (.arr 9 (.int .i64)), 9, 72,
  List.replicate 9 (.int .i64 0)⟩), (93, ⟨.sl 117, some (.sl (.pair (.int .i64) (.sl (.int .u8)))), 1, 24, [.slice none 0 0]⟩), (125, ⟨.sl 108, some (.sl (.pair (.int .i64) (.sl (.int
  .u8)))), 1, 24, [.slice none 0 0]⟩), (127, ⟨.sl 3, some (.sl (.int .i64)), 1, 24, [.slice none 0 0]⟩), (144, ⟨.arr 8 5, some (.arr 8 (.int .u8)), 8, 8, [.int .u8 0, .int .u8 0, .int .u8 0,
  .int .u8 0, .int .u8 0, .int .u8 0, .int .u8 0, .int .u8 0]⟩), (155, ⟨.int .i8, some (.int .i8), 1, 1, [.int .i8 0]⟩), (195, ⟨.int .u32, some (.int .u32), 1, 4, [.int .u32 0]⟩)]
theorem tya2 : ∀ p ∈ tys2, p.2.ok Try.prog p.1 := by
  unfold tys2
  repeat' (first | exact List.forall_mem_nil _ | refine List.forall_mem_cons.2 ⟨⟨(by kernel_rfl : _ = _), by kernel_rfl, by kernel_rfl, fun k h => by cases h; exact ⟨by kernel_rfl, by kernel_rfl, by kernel_rfl⟩⟩, ?_⟩)
def tys3 : List (Nat × TI) := [(7, ⟨.st [(2, 0), (3, 1), (4, 2), (6, 3)], some (.pair (.int .i64) (.pair (.int .i64) (.pair .bool (.int .u8)))), 4, 24, [.int .i64 0, .int .i64 0, .bool
  false, .int .u8 0]⟩), (8, ⟨.st [(2, 0), (3, 1), (4, 2), (6, 3)], some (.pair (.int .i64) (.pair (.int .i64) (.pair .bool (.int .u8)))), 4, 24, [.int .i64 0, .int .i64 0, .bool false, .int
  .u8 0]⟩), (13, ⟨.st [(9, 0), (12, 1)], some (.pair .str (.int .u64)), 2, 24, [.string ⟨#[]⟩, .int .u64 0]⟩), (14, ⟨.st [(9, 0), (12, 1)], some (.pair .str (.int .u64)), 2, 24, [.string
  ⟨#[]⟩, .int .u64 0]⟩), (22, ⟨.st [(4, 0), (3, 1)], some (.pair .bool (.int .i64)), 2, 16, [.bool false, .int .i64 0]⟩), (23, ⟨.st [(4, 0), (3, 1)], some (.pair .bool (.int .i64)), 2, 16,
  [.bool false, .int .i64 0]⟩), (67, ⟨.st [(3, 0), (4, 1), (27, 2)], some (.pair (.int .i64) (.pair .bool (.sl (.int .u8)))), 3, 40, [.int .i64 0, .bool false, .slice none 0 0]⟩), (68, ⟨.st
  [(3, 0), (4, 1), (27, 2)], some (.pair (.int .i64) (.pair .bool (.sl (.int .u8)))), 3, 40, [.int .i64 0, .bool false, .slice none 0 0]⟩), (81, ⟨.st [(4, 0), (74, 1)], some (.pair .bool (.sl
  (.sl (.int .u8)))), 2, 32, [.bool false, .slice none 0 0]⟩), (82, ⟨.st [(4, 0), (74, 1)], some (.pair .bool (.sl (.sl (.int .u8)))), 2, 32, [.bool false, .slice none 0 0]⟩), (107, ⟨.st [(3,
  0), (27, 1)], some (.pair (.int .i64) (.sl (.int .u8))), 2, 32, [.int .i64 0, .slice none 0 0]⟩), (108, ⟨.st [(3, 0), (27, 1)], some (.pair (.int .i64) (.sl (.int .u8))), 2, 32, [.int .i64
  0, .slice none 0 0]⟩), (117, ⟨.st [(3, 0), (27, 1)], some (.pair (.int .i64) (.sl (.int .u8))), 2, 32, [.int .i64 0, .slice none 0 0]⟩), (180, ⟨.st [(28, 0)], some (.pair (.int .i64)
  .unit), 1, 8, [.int .i64 0]⟩), (181, ⟨.st [(28, 0)], some (.pair (.int .i64) .unit), 1, 8, [.int .i64 0]⟩)]
theorem tya3 : ∀ p ∈ tys3, p.2.ok Try.prog p.1 := by
  unfold tys3
  repeat' (first | exact List.forall_mem_nil _ | refine List.forall_mem_cons.2 ⟨⟨⟨by kernel_rfl, by kernel_rfl⟩, by kernel_rfl, by kernel_rfl, fun k h => by cases h; exact ⟨by kernel_rfl, by kernel_rfl, by kernel_rfl⟩⟩, ?_⟩)
def tys4 : List (Nat × TI) := [(15, ⟨.ptr 191, none, 1, 8, [.pointer none]⟩), (16, ⟨.ptr 194, none, 1, 8, [.pointer none]⟩), (17, ⟨.ptr 203, none, 1, 8, [.pointer none]⟩), (75, ⟨.ptr 82,
  none, 1, 8, [.pointer none]⟩), (192, ⟨.arr 0 16, none, 0, 0, []⟩), (199, ⟨.ptr 5, none, 1, 8, [.pointer none]⟩)]
theorem tya4 : ∀ p ∈ tys4, p.2.ok Try.prog p.1 := by
  unfold tys4
  repeat' (first | exact List.forall_mem_nil _ | refine List.forall_mem_cons.2 ⟨⟨(by kernel_rfl : _ = _), by kernel_rfl, by kernel_rfl, fun k h => by cases h⟩, ?_⟩)
def tys5 : List (Nat × TI) := [(18, ⟨.st [(17, 0)], none, 1, 8, [.pointer none]⟩), (19, ⟨.st [(17, 0)], none, 1, 8, [.pointer none]⟩), (150, ⟨.st [], none, 0, 0, []⟩), (151, ⟨.st [], none,
  0, 0, []⟩), (190, ⟨.st [(17, 0), (17, 1), (17, 2), (9, 3)], none, 4, 40, [.pointer none, .pointer none, .pointer none, .string ⟨#[]⟩]⟩), (191, ⟨.st [(17, 0), (17, 1), (17, 2), (9, 3)],
  none, 4, 40, [.pointer none, .pointer none, .pointer none, .string ⟨#[]⟩]⟩), (193, ⟨.st [(192, 0)], none, 0, 0, []⟩), (194, ⟨.st [(192, 0)], none, 0, 0, []⟩), (202, ⟨.st [(12, 0), (12, 1),
  (195, 2), (196, 3), (5, 4), (5, 5), (197, 6), (198, 7), (199, 8), (200, 9), (201, 10)], none, 11, 48, [.int .u64 0, .int .u64 0, .int .u32 0, .int .u8 0, .int .u8 0, .int .u8 0, .int .u8 0,
  .nilFunc, .pointer none, .int .i32 0, .int .i32 0]⟩), (203, ⟨.st [(12, 0), (12, 1), (195, 2), (196, 3), (5, 4), (5, 5), (197, 6), (198, 7), (199, 8), (200, 9), (201, 10)], none, 11, 48,
  [.int .u64 0, .int .u64 0, .int .u32 0, .int .u8 0, .int .u8 0, .int .u8 0, .int .u8 0, .nilFunc, .pointer none, .int .i32 0, .int .i32 0]⟩)]
theorem tya5 : ∀ p ∈ tys5, p.2.ok Try.prog p.1 := by
  unfold tys5
  repeat' (first | exact List.forall_mem_nil _ | refine List.forall_mem_cons.2 ⟨⟨⟨by kernel_rfl, by kernel_rfl⟩, by kernel_rfl, by kernel_rfl, fun k h => by cases h⟩, ?_⟩)
def tys6 : List (Nat × TI) := [(20, ⟨.ifc, none, 1, 16, [.nilIface]⟩)]
theorem tya6 : ∀ p ∈ tys6, p.2.ok Try.prog p.1 := by
  unfold tys6
  repeat' (first | exact List.forall_mem_nil _ | refine List.forall_mem_cons.2 ⟨⟨⟨_, rfl⟩, by kernel_rfl, by kernel_rfl, fun k h => by cases h⟩, ?_⟩)
def tys : List (Nat × TI) := tys1 ++ tys2 ++ tys3 ++ tys4 ++ tys5 ++ tys6
theorem lookup_mem {l : List (Nat × TI)} {i : Nat} {x : TI} (h : l.lookup i = some x) : (i, x) ∈ l := by
  induction l with
  | nil => cases h
  | cons a l ih =>
    obtain ⟨d, s⟩ := a
    by_cases e : i = d
    . simp [e, List.lookup] at h; simp [e, h]
    . have : (i == d) = false := by simp [e]
      simp only [List.lookup, this] at h; exact List.mem_cons_of_mem _ (ih h)
theorem tya : ∀ p ∈ tys, p.2.ok Try.prog p.1 := by
  intro p h
  unfold tys at h
  simp only [List.mem_append] at h
  rcases h with ((((h | h) | h) | h) | h) | h
  . exact tya1 p h
  . exact tya2 p h
  . exact tya3 p h
  . exact tya4 p h
  . exact tya5 p h
  . exact tya6 p h
noncomputable def ty : Ty := ⟨Try.prog, tys⟩
theorem tyOk : ty.Ok := fun t i h => tya (t, i) (lookup_mem h)
end Go.Proofs.Ytbdfeddakniaeaa
