/- Plain facts that walks need. -/
import Derived.Test.YtkdffofjnjamlaaDoorZVcLib
set_option linter.unusedVariables false
set_option linter.unusedSimpArgs false
namespace Go.Pl
open Go.Vc
open Go.RowKit

abbrev U8 : Kd := .int .u8
abbrev U16 : Kd := .int .u16
abbrev U32 : Kd := .int .u32
abbrev U64 : Kd := .int .u64
abbrev I32 : Kd := .int .i32
abbrev I64 : Kd := .int .i64
abbrev BY : Kd := .sl U8

theorem wrapK (i : Int) (h0 : -9000000000000000000 ≤ i) (h1 : i ≤ 9000000000000000000) : IntKind.wrap .i64 i = i := by rw [IntKind.wrap_i64]; omega
theorem wrapM (i : Int) (h0 : -9223372036854775808 ≤ i) (h1 : i ≤ 9223372036854775807) : IntKind.wrap .i64 i = i := by rw [IntKind.wrap_i64]; omega
theorem wrap8 (i : Int) (h0 : 0 ≤ i) (h1 : i ≤ 255) : IntKind.wrap .u8 i = i := by
  simp [IntKind.wrap, IntKind.signed, IntKind.bits]
  omega
theorem sumOnes {α : Type} (l : List α) : (l.map fun _ => 1).sum = l.length := by
  induction l with
  | nil => rfl
  | cons _ _ ih => simp [ih]; omega
/-- Are these bytes? -/
def Bys (l : List Int) : Prop := ∀ b ∈ l, 0 ≤ b ∧ b ≤ 255
theorem str_bys {l : List Int} (h : Kd.wf Kd.str l) : Bys l := fun b hb => h.2 b hb
theorem inr_u8 {x : Int} : InR .u8 x ↔ 0 ≤ x ∧ x ≤ 255 := by simp [InR, IntKind.min, IntKind.max, IntKind.signed, IntKind.bits]
theorem sl_bys {l : List Int} (h : Kd.wf BY l) : Bys l := fun b hb => inr_u8.1 (h.2 b hb)
theorem bys_get {l : List Int} (h : Bys l) (i : Nat) : 0 ≤ l.getD i 0 ∧ l.getD i 0 ≤ 255 := by
  by_cases hi : i < l.length
  · rw [List.getD_eq_getElem?_getD, List.getElem?_eq_getElem hi]
    exact h _ (List.getElem_mem hi)
  · rw [List.getD_eq_getElem?_getD, List.getElem?_eq_none (by omega)]
    decide
theorem bys_app {l m : List Int} (h : Bys l) (k : Bys m) : Bys (l ++ m) := fun b hb => (List.mem_append.1 hb).elim (h b) (k b)
theorem bys_take {l : List Int} (h : Bys l) (n : Nat) : Bys (l.take n) := fun b hb => h b (List.mem_of_mem_take hb)
theorem bys_drop {l : List Int} (h : Bys l) (n : Nat) : Bys (l.drop n) := fun b hb => h b (List.mem_of_mem_drop hb)
theorem getD_drop (l : List Int) (i j : Nat) : (l.drop i).getD j 0 = l.getD (i + j) 0 := by
  rw [List.getD_eq_getElem?_getD, List.getElem?_drop, ← List.getD_eq_getElem?_getD]
theorem getD_take (l : List Int) (n j : Nat) (h : j < n) : (l.take n).getD j 0 = l.getD j 0 := by
  rw [List.getD_eq_getElem?_getD, List.getElem?_take_of_lt h, ← List.getD_eq_getElem?_getD]
theorem getD_append_left (l m : List Int) (j : Nat) (h : j < l.length) : (l ++ m).getD j 0 = l.getD j 0 := by
  rw [List.getD_eq_getElem?_getD, List.getElem?_append_left h, ← List.getD_eq_getElem?_getD]
theorem getD_append_right (l m : List Int) (j : Nat) : (l ++ m).getD (l.length + j) 0 = m.getD j 0 := by
  rw [List.getD_eq_getElem?_getD, List.getElem?_append_right (by omega), Nat.add_sub_cancel_left, ← List.getD_eq_getElem?_getD]
theorem drop_consA {α : Type} (d : α) (l : List α) (n : Nat) (h : n < l.length) : l.drop n = l.getD n d :: l.drop (n + 1) := by
  rw [List.drop_eq_getElem_cons h, List.getD_eq_getElem?_getD, List.getElem?_eq_getElem h]
  rfl
theorem take_snocA {α : Type} (d : α) (l : List α) (n : Nat) (h : n < l.length) : l.take (n + 1) = l.take n ++ [l.getD n d] := by
  rw [List.take_add_one, List.getD_eq_getElem?_getD, List.getElem?_eq_getElem h]
  rfl
theorem drop_cons (l : List Int) (n : Nat) (h : n < l.length) : l.drop n = l.getD n 0 :: l.drop (n + 1) := drop_consA 0 l n h
theorem take_snoc (l : List Int) (n : Nat) (h : n < l.length) : l.take (n + 1) = l.take n ++ [l.getD n 0] := take_snocA 0 l n h
theorem nil_of_len {α : Type} {l : List α} (h : (l.length : Int) ≤ 0) : l = [] := List.eq_nil_of_length_eq_zero (by omega)
theorem all_getA {α : Type} (d : α) (p : α → Bool) (l : List α) (h : ∀ j, j < l.length → p (l.getD j d) = true) : l.all p = true := by
  rw [List.all_eq_true]
  intro x hx
  obtain ⟨j, hj, e⟩ := List.getElem_of_mem hx
  have := h j hj
  rw [List.getD_eq_getElem?_getD, List.getElem?_eq_getElem hj] at this
  rw [← e]; exact this
theorem all_notA {α : Type} (d : α) (p : α → Bool) (l : List α) (i : Nat) (hi : i < l.length) (h : p (l.getD i d) = false) : l.all p = false := by
  rw [List.all_eq_false]
  refine ⟨l[i], List.getElem_mem hi, ?_⟩
  rw [List.getD_eq_getElem?_getD, List.getElem?_eq_getElem hi] at h
  simpa using h
theorem all_get (p : Int → Bool) (l : List Int) (h : ∀ j, j < l.length → p (l.getD j 0) = true) : l.all p = true := all_getA 0 p l h
theorem all_not (p : Int → Bool) (l : List Int) (i : Nat) (hi : i < l.length) (h : p (l.getD i 0) = false) : l.all p = false := all_notA 0 p l i hi h
theorem get_all {p : Int → Bool} {l : List Int} (h : l.all p = true) (j : Nat) (hj : j < l.length) : p (l.getD j 0) = true := by
  rw [List.all_eq_true] at h
  rw [List.getD_eq_getElem?_getD, List.getElem?_eq_getElem hj]
  exact h _ (List.getElem_mem hj)
theorem mem_getD {α : Type} (d : α) (l : List α) (i : Nat) (h : i < l.length) : l.getD i d ∈ l := by
  rw [List.getD_eq_getElem?_getD, List.getElem?_eq_getElem h]
  exact List.getElem_mem h
theorem bs_nil : bs { data := #[] } = ([] : List Int) := rfl
theorem drop_head {α : Type} (d : α) {W r : List α} {n : Nat} {w : α} (h : W.drop n = w :: r) : n < W.length ∧ W.getD n d = w ∧ W.drop (n + 1) = r := by
  have hn : n < W.length := by
    have := congrArg List.length h
    simp at this
    omega
  rw [drop_consA d W n hn, List.cons.injEq] at h
  exact ⟨hn, h.1, h.2⟩
/-- What is asked of whatever a call gives is asked of what it gives. -/
theorem all_bool {E : Bool} {Q : Bool × Unit → Prop} : (∀ y : Bool × Unit, Kd.wf Kd.bool y.1 → y.1 = E → Q y) ↔ Q (E, ()) :=
  ⟨fun h => h (E, ()) trivial rfl, fun h y _ e => by obtain ⟨b, _⟩ := y; cases e; exact h⟩
theorem all_int {k : IntKind} {E : Int} {Q : Int × Unit → Prop} : (∀ y : Int × Unit, Kd.wf (Kd.int k) y.1 → y.1 = E → Q y) ↔ (Kd.wf (Kd.int k) E → Q (E, ())) :=
  ⟨fun h hw => h (E, ()) hw rfl, fun h y hw e => by obtain ⟨b, _⟩ := y; cases e; exact h hw⟩
theorem all_str {E : List Int} {Q : List Int × Unit → Prop} : (∀ y : List Int × Unit, Kd.wf Kd.str y.1 → y.1 = E → Q y) ↔ (Kd.wf Kd.str E → Q (E, ())) :=
  ⟨fun h hw => h (E, ()) hw rfl, fun h y hw e => by obtain ⟨b, _⟩ := y; cases e; exact h hw⟩
end Go.Pl
