import Derived.Test.YtiofbnlbfmbodaaProg
import Derived.Test.YtiofbnlbfmbodaaZV05
namespace Go.Proofs.Ytiofbnlbfmbodaa
set_option maxRecDepth 100000
open Go Go.Vc Go.Proofs
def tyn1 : List Nat := [1, 26, 29, 31, 32, 34, 35, 36, 37, 38, 40, 42, 43, 47, 49, 52, 54, 56, 58, 62, 64, 65, 66, 67, 69, 71, 72, 73, 74, 75, 76, 77, 78, 80, 82, 85, 87, 89, 91, 92, 93,
  95, 97, 99, 100, 102, 104, 105, 106, 107, 108, 109, 110, 111, 112, 114, 116, 117, 118, 119, 120, 121, 122, 123, 124, 125, 126, 130, 131, 132, 133, 135, 137, 139, 140, 142, 145, 147, 148,
  150, 151, 152, 153, 154, 155, 157, 161, 162, 164, 165, 166, 167, 169, 178]
def tys1 : List (Nat × TI) := tyn1.map fun n => (n, ⟨.fn, some .fn, 1, 8, [.nilFunc]⟩)
theorem tyo1 : ∀ n ∈ tyn1, TI.ok Try.prog n ⟨.fn, some .fn, 1, 8, [.nilFunc]⟩ := by
  unfold tyn1
  repeat' (first | exact List.forall_mem_nil _ | refine List.forall_mem_cons.2 ⟨⟨⟨_, _, _, rfl⟩, by kernel_rfl, by kernel_rfl, fun k h => by cases h; exact ⟨by kernel_rfl, by kernel_rfl, by kernel_rfl⟩⟩, ?_⟩)
theorem tya1 : ∀ p ∈ tys1, p.2.ok Try.prog p.1 := by
  intro p h
  obtain ⟨n, hn, rfl⟩ := List.mem_map.1 h
  exact tyo1 n hn
def tys2 : List (Nat × TI) := [(2, ⟨.int .i64, some (.int .i64), 1, 8, [.int .i64 0]⟩), (3, ⟨.int .i64, some (.int .i64), 1, 8, [.int .i64 0]⟩), (27, ⟨.int .i64, some (.int .i64), 1, 8,
  [.int .i64 0]⟩), (4, ⟨.bool, some .bool, 1, 1, [.bool false]⟩), (5, ⟨.int .u8, some (.int .u8), 1, 1, [.int .u8 0]⟩), (6, ⟨.int .u8, some (.int .u8), 1, 1, [.int .u8 0]⟩), (176, ⟨.int .u8,
  some (.int .u8), 1, 1, [.int .u8 0]⟩), (177, ⟨.int .u8, some (.int .u8), 1, 1, [.int .u8 0]⟩), (9, ⟨.str, some .str, 1, 16, [.string ⟨#[]⟩]⟩), (10, ⟨.str, some .str, 1, 16, [.string
  ⟨#[]⟩]⟩), (11, ⟨.str, some .str, 1, 16, [.string ⟨#[]⟩]⟩), (12, ⟨.int .u64, some (.int .u64), 1, 8, [.int .u64 0]⟩), (144, ⟨.int .u64, some (.int .u64), 1, 8, [.int .u64 0]⟩), (168, ⟨.int
  .u64, some (.int .u64), 1, 8, [.int .u64 0]⟩), (21, ⟨.int .i32, some (.int .i32), 1, 4, [.int .i32 0]⟩), (180, ⟨.int .i32, some (.int .i32), 1, 4, [.int .i32 0]⟩), (181, ⟨.int .i32, some
  (.int .i32), 1, 4, [.int .i32 0]⟩), (22, ⟨.sl 25, some (.sl (.pair (.int .i64) (.pair .bool (.sl (.int .u8))))), 1, 24, [.slice none 0 0]⟩), (23, ⟨.sl 5, some (.sl (.int .u8)), 1, 24,
  [.slice none 0 0]⟩), (50, ⟨.int .u16, some (.int .u16), 1, 2, [.int .u16 0]⟩), (59, ⟨.arr 20 5, some (.arr 20 (.int .u8)), 20, 20, List.replicate 20 (.int .u8 0)⟩), (60, ⟨.arr 20 5, some
  (.arr 20 (.int .u8)), 20, 20, List.replicate 20 (.int .u8 0)⟩), (68, ⟨.sl 23, some (.sl (.sl (.int .u8))), 1, 24, [.slice none 0 0]⟩), (70, ⟨.sl 3, some (.sl (.int .i64)), 1, 24, [.slice
  none 0 0]⟩), (79, ⟨.arr 9 3, some (.arr 9 (.int .i64)), 9, 72, List.replicate 9 (.int .i64 0)⟩), (81, ⟨.sl 84, some (.sl (.pair (.int .i64) (.sl (.int .u8)))), 1, 24, [.slice none 0 0]⟩),
  (94, ⟨.sl 98, some (.sl (.pair (.int .i64) (.sl (.int .u8)))), 1, 24, [.slice none 0 0]⟩), (143, ⟨.int .i8, some (.int .i8), 1, 1, [.int .i8 0]⟩), (175, ⟨.int .u32, some (.int .u32), 1, 4,
  [.int .u32 0]⟩)]
theorem tya2 : ∀ p ∈ tys2, p.2.ok Try.prog p.1 := by
  unfold tys2
  repeat' (first | exact List.forall_mem_nil _ | refine List.forall_mem_cons.2 ⟨⟨(by kernel_rfl : _ = _), by kernel_rfl, by kernel_rfl, fun k h => by cases h; exact ⟨by kernel_rfl, by kernel_rfl, by kernel_rfl⟩⟩, ?_⟩)
def tys3 : List (Nat × TI) := [(7, ⟨.st [(2, 0), (3, 1), (4, 2), (6, 3)], some (.pair (.int .i64) (.pair (.int .i64) (.pair .bool (.int .u8)))), 4, 24, [.int .i64 0, .int .i64 0, .bool
  false, .int .u8 0]⟩), (8, ⟨.st [(2, 0), (3, 1), (4, 2), (6, 3)], some (.pair (.int .i64) (.pair (.int .i64) (.pair .bool (.int .u8)))), 4, 24, [.int .i64 0, .int .i64 0, .bool false, .int
  .u8 0]⟩), (13, ⟨.st [(9, 0), (12, 1)], some (.pair .str (.int .u64)), 2, 24, [.string ⟨#[]⟩, .int .u64 0]⟩), (14, ⟨.st [(9, 0), (12, 1)], some (.pair .str (.int .u64)), 2, 24, [.string
  ⟨#[]⟩, .int .u64 0]⟩), (24, ⟨.st [(3, 0), (4, 1), (23, 2)], some (.pair (.int .i64) (.pair .bool (.sl (.int .u8)))), 3, 40, [.int .i64 0, .bool false, .slice none 0 0]⟩), (25, ⟨.st [(3, 0),
  (4, 1), (23, 2)], some (.pair (.int .i64) (.pair .bool (.sl (.int .u8)))), 3, 40, [.int .i64 0, .bool false, .slice none 0 0]⟩), (44, ⟨.st [(4, 0), (3, 1)], some (.pair .bool (.int .i64)),
  2, 16, [.bool false, .int .i64 0]⟩), (45, ⟨.st [(4, 0), (3, 1)], some (.pair .bool (.int .i64)), 2, 16, [.bool false, .int .i64 0]⟩), (83, ⟨.st [(3, 0), (23, 1)], some (.pair (.int .i64)
  (.sl (.int .u8))), 2, 32, [.int .i64 0, .slice none 0 0]⟩), (84, ⟨.st [(3, 0), (23, 1)], some (.pair (.int .i64) (.sl (.int .u8))), 2, 32, [.int .i64 0, .slice none 0 0]⟩), (98, ⟨.st [(3,
  0), (23, 1)], some (.pair (.int .i64) (.sl (.int .u8))), 2, 32, [.int .i64 0, .slice none 0 0]⟩), (158, ⟨.st [(27, 0)], some (.pair (.int .i64) .unit), 1, 8, [.int .i64 0]⟩), (159, ⟨.st
  [(27, 0)], some (.pair (.int .i64) .unit), 1, 8, [.int .i64 0]⟩)]
theorem tya3 : ∀ p ∈ tys3, p.2.ok Try.prog p.1 := by
  unfold tys3
  repeat' (first | exact List.forall_mem_nil _ | refine List.forall_mem_cons.2 ⟨⟨⟨by kernel_rfl, by kernel_rfl⟩, by kernel_rfl, by kernel_rfl, fun k h => by cases h; exact ⟨by kernel_rfl, by kernel_rfl, by kernel_rfl⟩⟩, ?_⟩)
def tys4 : List (Nat × TI) := [(15, ⟨.ptr 171, none, 1, 8, [.pointer none]⟩), (16, ⟨.ptr 174, none, 1, 8, [.pointer none]⟩), (17, ⟨.ptr 183, none, 1, 8, [.pointer none]⟩), (172, ⟨.arr 0 16,
  none, 0, 0, []⟩), (179, ⟨.ptr 5, none, 1, 8, [.pointer none]⟩)]
theorem tya4 : ∀ p ∈ tys4, p.2.ok Try.prog p.1 := by
  unfold tys4
  repeat' (first | exact List.forall_mem_nil _ | refine List.forall_mem_cons.2 ⟨⟨(by kernel_rfl : _ = _), by kernel_rfl, by kernel_rfl, fun k h => by cases h⟩, ?_⟩)
def tys5 : List (Nat × TI) := [(18, ⟨.st [(17, 0)], none, 1, 8, [.pointer none]⟩), (19, ⟨.st [(17, 0)], none, 1, 8, [.pointer none]⟩), (127, ⟨.st [], none, 0, 0, []⟩), (128, ⟨.st [], none,
  0, 0, []⟩), (170, ⟨.st [(17, 0), (17, 1), (17, 2), (9, 3)], none, 4, 40, [.pointer none, .pointer none, .pointer none, .string ⟨#[]⟩]⟩), (171, ⟨.st [(17, 0), (17, 1), (17, 2), (9, 3)],
  none, 4, 40, [.pointer none, .pointer none, .pointer none, .string ⟨#[]⟩]⟩), (173, ⟨.st [(172, 0)], none, 0, 0, []⟩), (174, ⟨.st [(172, 0)], none, 0, 0, []⟩), (182, ⟨.st [(12, 0), (12, 1),
  (175, 2), (176, 3), (5, 4), (5, 5), (177, 6), (178, 7), (179, 8), (180, 9), (181, 10)], none, 11, 48, [.int .u64 0, .int .u64 0, .int .u32 0, .int .u8 0, .int .u8 0, .int .u8 0, .int .u8 0,
  .nilFunc, .pointer none, .int .i32 0, .int .i32 0]⟩), (183, ⟨.st [(12, 0), (12, 1), (175, 2), (176, 3), (5, 4), (5, 5), (177, 6), (178, 7), (179, 8), (180, 9), (181, 10)], none, 11, 48,
  [.int .u64 0, .int .u64 0, .int .u32 0, .int .u8 0, .int .u8 0, .int .u8 0, .int .u8 0, .nilFunc, .pointer none, .int .i32 0, .int .i32 0]⟩)]
theorem tya5 : ∀ p ∈ tys5, p.2.ok Try.prog p.1 := by
  unfold tys5
  repeat' (first | exact List.forall_mem_nil _ | refine List.forall_mem_cons.2 ⟨⟨⟨by kernel_rfl, by kernel_rfl⟩, by kernel_rfl, by kernel_rfl, fun k h => by cases h⟩, ?_⟩)
def tys6 : List (Nat × TI) := [(20, ⟨.ifc, none, 1, 16, [.nilIface]⟩)]
theorem tya6 : ∀ p ∈ tys6, p.2.ok Try.prog p.1 := by
  unfold tys6
  repeat' (first | exact List.forall_mem_nil _ | refine List.forall_mem_cons.2 ⟨⟨⟨_, rfl⟩, by kernel_rfl, by kernel_rfl, fun k h => by cases h⟩, ?_⟩)
def tys : List (Nat × TI) := tys1 ++ tys2 ++ tys3 ++ tys4 ++ tys5 ++ tys6
theorem lookup_mem {l : List (Nat × TI)} {i : Nat} {x : TI} (h : l.lookup i = some x) : (i, x) ∈ l := by
  induction l with
  | nil => cases h
  | cons a l ih =>
    obtain ⟨d, s⟩ := a
    by_cases e : i = d
    . simp [e, List.lookup] at h; simp [e, h]
    . have : (i == d) = false := by simp [e]
      simp only [List.lookup, this] at h; exact List.mem_cons_of_mem _ (ih h)
theorem tya : ∀ p ∈ tys, p.2.ok Try.prog p.1 := by
  intro p h
  unfold tys at h
  simp only [List.mem_append] at h
  rcases h with ((((h | h) | h) | h) | h) | h
  . exact tya1 p h
  . exact tya2 p h
  . exact tya3 p h
  . exact tya4 p h
  . exact tya5 p h
  . exact tya6 p h
noncomputable def ty : Ty := ⟨Try.prog, tys⟩
theorem tyOk : ty.Ok := fun t i h => tya (t, i) (lookup_mem h)
end Go.Proofs.Ytiofbnlbfmbodaa
