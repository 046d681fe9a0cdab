/- Texts of a verified walk, led together: Plain, Strs, Der. -/
import Derived.Test.YtbdfeddakniaeaaZV05
import Derived.Lib.Bytealg
import Derived.Lib.IndexMore
set_option linter.unusedVariables false
set_option linter.unusedSimpArgs false
section
namespace Go.Pl
open Go.Vc
open Go.RowKit
abbrev U8 : Kd := .int .u8
abbrev I64 : Kd := .int .i64
abbrev BY : Kd := .sl U8
theorem wrapK (i : Int) (h0 : -9000000000000000000 ≤ i) (h1 : i ≤ 9000000000000000000) : IntKind.wrap .i64 i = i := by rw [IntKind.wrap_i64]; omega
theorem wrapM (i : Int) (h0 : -9223372036854775808 ≤ i) (h1 : i ≤ 9223372036854775807) : IntKind.wrap .i64 i = i := by rw [IntKind.wrap_i64]; omega
theorem wrap8 (i : Int) (h0 : 0 ≤ i) (h1 : i ≤ 255) : IntKind.wrap .u8 i = i := by
  simp [IntKind.wrap, IntKind.signed, IntKind.bits]
  omega
end Go.Pl
end
section
namespace Go.Pl
open Go.Vc
open Go.RowKit
end Go.Pl
end
section
namespace Go.Pl
open Go.Vc
set_option linter.unusedVariables false
set_option linter.unusedSimpArgs false
abbrev EltT : Type := Int × List Int
abbrev ET : Kd := .pair (.int .i64) (.sl (.int .u8))
def lenF (l : List (List Int)) : Nat := l.flatten.length
def lenB (l : List Int) : Nat := l.length
def isTagD (t : Int) : Bool := decide (0 ≤ t) && (decide (t ≤ 255) && decide (t % 32 ≠ 31))
def lngD (n : Int) : List Int := if n < 128 then [n] else if n < 256 then [129, n] else if n < 65536 then [130, n / 256, n % 256] else [131, n / 65536, n / 256 % 256, n % 256]
def putB (x : EltT) : List Int := x.1 :: (lngD x.2.length ++ x.2)
def PutD (b : List Int) (t : Int) (c : List Int) : List Int × Int := if isTagD t = false then ([], 2) else if 16777215 < c.length then ([], 3) else (b ++ putB (t, c), 0)
theorem tag_range {t : Int} (h : isTagD t = true) : 0 ≤ t ∧ t ≤ 255 ∧ t % 32 ≠ 31 := by
  simp only [isTagD, Bool.and_eq_true, decide_eq_true_eq] at h
  exact h
set_option maxRecDepth 100000 in
theorem and31_fin : ∀ k : Fin 256, (BitVec.ofInt 64 (k.1 : Int) &&& BitVec.ofInt 64 31).toNat = k.1 % 32 := by decide +kernel
theorem and31 {t : Int} (h0 : 0 ≤ t) (h1 : t ≤ 255) : IntKind.wrap .i64 ↑(BitVec.ofInt 64 t &&& BitVec.ofInt 64 31).toNat = t % 32 := by
  have h := and31_fin ⟨t.toNat, by omega⟩
  simp only at h
  rw [show t = ((t.toNat : Nat) : Int) by omega, h, wrapK _ (by omega) (by omega)]
  omega
theorem lng_len {n : Int} : 1 ≤ (lngD n).length ∧ (lngD n).length ≤ 4 := by
  unfold lngD
  split
  . simp
  split
  . simp
  split <;> simp
theorem put_len (x : EltT) : (putB x).length = 1 + (lngD x.2.length).length + x.2.length := by simp [putB]; omega
theorem isTag_eq (t : Int) : (decide (0 ≤ t) && decide (t ≤ 255) && decide (¬ IntKind.wrap .i64 ↑(BitVec.ofInt 64 t &&& BitVec.ofInt 64 31).toNat = 31)) = isTagD t := by
  by_cases h : 0 ≤ t ∧ t ≤ 255
  . rw [and31 h.1 h.2, isTagD, Bool.and_assoc]
  . rw [isTagD, Bool.eq_iff_iff]
    simp only [Bool.and_eq_true, decide_eq_true_eq]
    omega
theorem fdiv_pow {n : Int} (h : 0 ≤ n) : n.fdiv (2 ^ 8) = n / 256 ∧ n.fdiv (2 ^ 16) = n / 65536 := by
  constructor <;> (rw [Int.fdiv_eq_ediv_of_nonneg _ (by decide)]; rfl)
theorem wrap_u8m (m : Int) : IntKind.wrap .u8 m = m % 256 := by simp [IntKind.wrap, IntKind.signed, IntKind.bits]
theorem flat_bound (xs : List (List Int)) (n : Nat) : (xs.take n).flatten.length ≤ xs.flatten.length := by
  conv => rhs; rw [← List.take_append_drop n xs]
  rw [List.flatten_append, List.length_append]
  omega
theorem take_flat (xs : List (List Int)) (i : Nat) (h : i < xs.length) : (xs.take (i + 1)).flatten = (xs.take i).flatten ++ xs.getD i [] := by
  rw [List.take_add_one, List.flatten_append, List.getD_eq_getElem?_getD, List.getElem?_eq_getElem h]
  simp
theorem flat_loop (xs : List (List Int)) (hp : xs.length ≤ 9223372036854775807) (hb : xs.flatten.length ≤ 1000000000) (z0 : List Int) (hz : z0 = []) :
    ∃ (I : Int × Unit → List Int × Unit → Prop) (μ : Int × Unit → List Int × Unit → Nat), I (0, ()) (z0, ()) ∧ ∀ (y_1 : Int × Unit) (z : List Int × Unit),
      (Kd.int IntKind.i64).wf y_1.fst → (Kd.int IntKind.u8).sl.wf z.fst → I y_1 z →
        (y_1.fst < ↑xs.length → (0 ≤ y_1.fst ∧ y_1.fst < ↑xs.length) ∧ 0 < 1 ∧ z.fst.length + (xs.getD y_1.fst.toNat []).length ≤ 140737488355328 ∧
          z.fst.length + (xs.getD y_1.fst.toNat []).length ≤ 9223372036854775807 ∧ I (IntKind.i64.wrap (y_1.fst + 1), ()) (z.fst ++ xs.getD y_1.fst.toNat [], ()) ∧
            μ (IntKind.i64.wrap (y_1.fst + 1), ()) (z.fst ++ xs.getD y_1.fst.toNat [], ()) < μ y_1 z) ∧
        (¬y_1.fst < ↑xs.length → z.fst = xs.flatten) := by
  refine ⟨fun y z => 0 ≤ y.1 ∧ y.1 ≤ xs.length ∧ z.1 = (xs.take y.1.toNat).flatten, fun y z => xs.length - y.1.toNat, ⟨by simp, by simp, by simp [hz]⟩, ?_⟩
  rintro ⟨i, _⟩ ⟨r, _⟩ hy hz ⟨h0, h1, h2⟩
  simp only at h0 h1 h2 ⊢
  refine ⟨fun hlt => ?_, fun hge => ?_⟩
  . have hw : IntKind.wrap .i64 (i + 1) = i + 1 := wrapM _ (by omega) (by omega)
    have e := take_flat xs i.toNat (by omega)
    have hl := flat_bound xs (i.toNat + 1)
    rw [e, List.length_append, ← h2] at hl
    rw [hw]
    refine ⟨⟨h0, hlt⟩, by decide, by omega, by omega, ⟨by omega, by omega, ?_⟩, by omega⟩
    rw [show (i + 1).toNat = i.toNat + 1 by omega, e, h2]
  . rw [h2, show i.toNat = xs.length by omega, List.take_length]
end Go.Pl
end
