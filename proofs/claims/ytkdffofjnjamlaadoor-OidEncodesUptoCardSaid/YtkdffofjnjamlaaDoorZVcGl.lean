/- Package variables, from what a row lists. -/
import Derived.Test.YtkdffofjnjamlaaDoorZVcLaw
import Derived.Lib.LaidU8
set_option linter.unusedVariables false
set_option linter.unusedSimpArgs false
namespace Go.Vc
open Go.RowKit Go.Lib

def inRB (k : IntKind) (z : Int) : Bool := decide (k.min ≤ z) && decide (z ≤ k.max)
theorem inRB_eq {k : IntKind} {z : Int} (h : inRB k z = true) : InR k z := by
  simp only [inRB, Bool.and_eq_true, decide_eq_true_eq] at h
  exact h

theorem gl_ints {P : Program} {w : World} {name : String} {k : IntKind} {zs : List Int} {g : Nat} {t e : TypeId} {n : Nat} {d : DataW Unit}
    (hg : P.globalNamed name = some g) (hty : (P.globals[g]?).map (·.type) = some t) (ht : P.underlying t = some (.array n e)) (he : P.underlying e = some (.int k)) (hce : P.cellsOf e = 1) (hct : P.cellsOf t = n)
    (hz : zs.all (inRB k) = true) (hne : 0 < zs.length) (hd : d = tabData k zs) (h : VarReads P w name d) : g < w.heap.size ∧ ¬ False ∧ GV.ok w (fun _ => False) g (.arr (.int k) zs) := by
  subst hd
  obtain ⟨g', t', cs, fuel, p, hg', ht', hvar, hd⟩ := h
  obtain rfl := Option.some.inj (hg.symm.trans hg')
  obtain rfl := Option.some.inj (hty.symm.trans ht')
  have hc := cells_of_tab ht he hce hct hd
  have cell : ∀ i, i < zs.length → w.cell? ⟨g, i, none⟩ = some (.int k (zs.getD i 0)) := fun i hi => by
    have := World.var?_cell hg hvar i
    rw [this, ← Array.getElem?_toList, hc]
    simp [List.getD, hi]
  refine ⟨cell_lt (cell 0 hne), id, fun i x hx => ?_⟩
  obtain ⟨hi, hx2⟩ := List.getElem?_eq_some_iff.1 hx
  refine ⟨[.int k x], ⟨rfl, ?_⟩, fun j u hu => ?_⟩
  · simp only [List.all_eq_true] at hz
    exact inRB_eq (hz x (List.mem_iff_getElem?.2 ⟨i, hx⟩))
  · cases j with
    | zero =>
      cases hu
      rw [addr_add]
      have := cell i hi
      have e : zs.getD i 0 = x := by rw [List.getD_eq_getElem?_getD, hx]; rfl
      rw [e] at this
      simpa [Kd.sz] using this
    | succ j => simp at hu

/-- A table of pairs of integers. -/
theorem gl_pairs {P : Program} {w : World} {name : String} {k : IntKind} {zs : List (Int × Int)} {g : Nat} {t e : TypeId} {n : Nat} {d : DataW Unit} {fs : Array Field}
    (hg : P.globalNamed name = some g) (hty : (P.globals[g]?).map (·.type) = some t) (ht : P.underlying t = some (.array n e)) (he : P.underlying e = some (.struct fs)) (hfs : fs.size = 2)
    (hf : ∀ (i : Nat) (f : Field), fs[i]? = some f → P.underlying f.type = some (.int k) ∧ f.offset = i ∧ P.cellsOf f.type = 1) (hce : P.cellsOf e = 2) (hct : P.cellsOf t = n * 2)
    (hz : zs.all (fun z => inRB k z.1 && inRB k z.2) = true) (hne : 0 < zs.length) (hn : zs.length = n) (hd : d = .agg (zs.map fun z => .agg [.lit (.int k z.1), .lit (.int k z.2)])) (h : VarReads P w name d) :
    g < w.heap.size ∧ ¬ False ∧ GV.ok w (fun _ => False) g (.arr (.pair (.int k) (.int k)) zs) := by
  subst hd
  obtain ⟨g', t', cs, fuel, p, hg', ht', hvar, hd⟩ := h
  obtain rfl := Option.some.inj (hg.symm.trans hg')
  obtain rfl := Option.some.inj (hty.symm.trans ht')
  have elem : ∀ i z, zs[i]? = some z → (cs.toList.drop (i * 2)).take 2 = [.int k z.1, .int k z.2] := by
    intro i z hi
    have hi' := (List.getElem?_eq_some_iff.1 hi).1
    obtain ⟨fuel', d, q, h1, h2⟩ := array_elem ht hd i (by omega)
    rw [List.getElem?_map, hi] at h1
    cases h1
    rw [hce] at h2
    exact ints_of_struct (zs := [z.1, z.2]) he (fun j f hj => hf j f hj) (by rw [hce, hfs]) h2
  have cell : ∀ i z, zs[i]? = some z → w.cell? ⟨g, i * 2, none⟩ = some (.int k z.1) ∧ w.cell? ⟨g, i * 2 + 1, none⟩ = some (.int k z.2) := by
    intro i z hi
    have h1 := elem i z hi
    have h2 := congrArg (·[0]?) h1
    have h3 := congrArg (·[1]?) h1
    simp only [List.getElem?_take, List.getElem?_drop] at h2 h3
    rw [World.var?_cell hg hvar, World.var?_cell hg hvar, ← Array.getElem?_toList, ← Array.getElem?_toList]
    exact ⟨by simpa using h2, by simpa using h3⟩
  refine ⟨?_, id, fun i x hx => ?_⟩
  · exact cell_lt (cell 0 zs[0] (List.getElem?_eq_getElem hne)).1
  · simp only [List.all_eq_true, Bool.and_eq_true] at hz
    have hr := hz x (List.mem_iff_getElem?.2 ⟨i, hx⟩)
    refine ⟨[.int k x.1, .int k x.2], ⟨[_], [_], rfl, ⟨rfl, inRB_eq hr.1⟩, ⟨rfl, inRB_eq hr.2⟩⟩, fun j u hu => ?_⟩
    obtain ⟨h1, h2⟩ := cell i x hx
    rw [addr_add]
    simp only [Kd.sz, Nat.zero_add]
    match j, hu with
    | 0, hu => cases hu; exact h1
    | 1, hu => cases hu; exact h2
    | j + 2, hu => simp at hu

/-- A struct of two integers of one kind. -/
def pairB (P : Program) (e : TypeId) (k : IntKind) : Bool :=
  match P.underlying e with
  | some (.struct fs) => fs.size == 2 && (List.range 2).all fun i => match fs[i]? with
    | some f => (match P.underlying f.type with | some (.int k') => k' == k | _ => false) && f.offset == i && P.cellsOf f.type == 1
    | none => false
  | _ => false
theorem pairB_eq {P : Program} {e : TypeId} {k : IntKind} (h : pairB P e k = true) : ∃ fs : Array Field, P.underlying e = some (.struct fs) ∧ fs.size = 2 ∧ ∀ (i : Nat) (f : Field), fs[i]? = some f → P.underlying f.type = some (.int k) ∧ f.offset = i ∧ P.cellsOf f.type = 1 := by
  unfold pairB at h
  split at h
  · rename_i fs hu
    simp only [Bool.and_eq_true, beq_iff_eq, List.all_eq_true, List.mem_range] at h
    refine ⟨fs, hu, h.1, fun i f hf => ?_⟩
    have hi : i < 2 := by
      obtain ⟨hi, _⟩ := Array.getElem?_eq_some_iff.1 hf
      omega
    have := h.2 i hi
    rw [hf] at this
    simp only [Bool.and_eq_true, beq_iff_eq] at this
    obtain ⟨⟨h1, h2⟩, h3⟩ := this
    split at h1
    · rename_i k' hk
      rw [beq_iff_eq] at h1
      subst h1
      exact ⟨hk, h2, h3⟩
    · cases h1
  · cases h
end Go.Vc
