/- Texts of a verified walk, led together: Gl, Lib. -/
import Derived.Test.YtiofbnlbfmbodaaGreatDoorZV05
import Derived.Lib.LaidU8
import Derived.Lib.LaidTab
import Derived.Sort.Grow
set_option linter.unusedVariables false
set_option linter.unusedSimpArgs false
section
namespace Go.Vc
open Go.RowKit Go.Lib
def inRB (k : IntKind) (z : Int) : Bool := decide (k.min ≤ z) && decide (z ≤ k.max)
theorem inRB_eq {k : IntKind} {z : Int} (h : inRB k z = true) : InR k z := by
  simp only [inRB, Bool.and_eq_true, decide_eq_true_eq] at h
  exact h
theorem gl_ints {P : Program} {w : World} {name : String} {k : IntKind} {zs : List Int} {g : Nat} {t e : TypeId} {n : Nat} {d : DataW Unit}
    (hg : P.globalNamed name = some g) (hty : (P.globals[g]?).map (·.type) = some t) (ht : P.underlying t = some (.array n e)) (he : P.underlying e = some (.int k)) (hce : P.cellsOf e = 1) (hct : P.cellsOf t = n)
    (hz : zs.all (inRB k) = true) (hne : 0 < zs.length) (hd : d = tabData k zs) (h : VarReads P w name d) : g < w.heap.size ∧ ¬ False ∧ GV.ok w (fun _ => False) g (.arr (.int k) zs) := by
  subst hd
  obtain ⟨g', t', cs, fuel, p, hg', ht', hvar, hd⟩ := h
  obtain rfl := Option.some.inj (hg.symm.trans hg')
  obtain rfl := Option.some.inj (hty.symm.trans ht')
  have hc := cells_of_tab ht he hce hct hd
  have cell : ∀ i, i < zs.length → w.cell? ⟨g, i, none⟩ = some (.int k (zs.getD i 0)) := fun i hi => by
    have := World.var?_cell hg hvar i
    rw [this, ← Array.getElem?_toList, hc]
    simp [List.getD, hi]
  refine ⟨cell_lt (cell 0 hne), id, fun i x hx => ?_⟩
  obtain ⟨hi, hx2⟩ := List.getElem?_eq_some_iff.1 hx
  refine ⟨[.int k x], ⟨rfl, ?_⟩, fun j u hu => ?_⟩
  . simp only [List.all_eq_true] at hz
    exact inRB_eq (hz x (List.mem_iff_getElem?.2 ⟨i, hx⟩))
  . cases j with
    | zero =>
      cases hu
      rw [addr_add]
      have := cell i hi
      have e : zs.getD i 0 = x := by rw [List.getD_eq_getElem?_getD, hx]; rfl
      rw [e] at this
      simpa [Kd.sz] using this
    | succ j => simp at hu
theorem gl_pairs {P : Program} {w : World} {name : String} {k : IntKind} {zs : List (Int × Int)} {g : Nat} {t e : TypeId} {n : Nat} {d : DataW Unit} {fs : Array Field}
    (hg : P.globalNamed name = some g) (hty : (P.globals[g]?).map (·.type) = some t) (ht : P.underlying t = some (.array n e)) (he : P.underlying e = some (.struct fs)) (hfs : fs.size = 2)
    (hf : ∀ (i : Nat) (f : Field), fs[i]? = some f → P.underlying f.type = some (.int k) ∧ f.offset = i ∧ P.cellsOf f.type = 1) (hce : P.cellsOf e = 2) (hct : P.cellsOf t = n * 2)
    (hz : zs.all (fun z => inRB k z.1 && inRB k z.2) = true) (hne : 0 < zs.length) (hn : zs.length = n) (hd : d = .agg (zs.map fun z => .agg [.lit (.int k z.1), .lit (.int k z.2)])) (h : VarReads P w name d) :
    g < w.heap.size ∧ ¬ False ∧ GV.ok w (fun _ => False) g (.arr (.pair (.int k) (.int k)) zs) := by
  subst hd
  obtain ⟨g', t', cs, fuel, p, hg', ht', hvar, hd⟩ := h
  obtain rfl := Option.some.inj (hg.symm.trans hg')
  obtain rfl := Option.some.inj (hty.symm.trans ht')
  have elem : ∀ i z, zs[i]? = some z → (cs.toList.drop (i * 2)).take 2 = [.int k z.1, .int k z.2] := by
    intro i z hi
    have hi' := (List.getElem?_eq_some_iff.1 hi).1
    obtain ⟨fuel', d, q, h1, h2⟩ := array_elem ht hd i (by omega)
    rw [List.getElem?_map, hi] at h1
    cases h1
    rw [hce] at h2
    exact ints_of_struct (zs := [z.1, z.2]) he (fun j f hj => hf j f hj) (by rw [hce, hfs]) h2
  have cell : ∀ i z, zs[i]? = some z → w.cell? ⟨g, i * 2, none⟩ = some (.int k z.1) ∧ w.cell? ⟨g, i * 2 + 1, none⟩ = some (.int k z.2) := by
    intro i z hi
    have h1 := elem i z hi
    have h2 := congrArg (·[0]?) h1
    have h3 := congrArg (·[1]?) h1
    simp only [List.getElem?_take, List.getElem?_drop] at h2 h3
    rw [World.var?_cell hg hvar, World.var?_cell hg hvar, ← Array.getElem?_toList, ← Array.getElem?_toList]
    exact ⟨by simpa using h2, by simpa using h3⟩
  refine ⟨?_, id, fun i x hx => ?_⟩
  . exact cell_lt (cell 0 zs[0] (List.getElem?_eq_getElem hne)).1
  . simp only [List.all_eq_true, Bool.and_eq_true] at hz
    have hr := hz x (List.mem_iff_getElem?.2 ⟨i, hx⟩)
    refine ⟨[.int k x.1, .int k x.2], ⟨[_], [_], rfl, ⟨rfl, inRB_eq hr.1⟩, ⟨rfl, inRB_eq hr.2⟩⟩, fun j u hu => ?_⟩
    obtain ⟨h1, h2⟩ := cell i x hx
    rw [addr_add]
    simp only [Kd.sz, Nat.zero_add]
    match j, hu with
    | 0, hu => cases hu; exact h1
    | 1, hu => cases hu; exact h2
    | j + 2, hu => simp at hu
def pairB (P : Program) (e : TypeId) (k : IntKind) : Bool :=
  match P.underlying e with
  | some (.struct fs) => fs.size == 2 && (List.range 2).all fun i => match fs[i]? with
    | some f => (match P.underlying f.type with | some (.int k') => k' == k | _ => false) && f.offset == i && P.cellsOf f.type == 1
    | none => false
  | _ => false
theorem pairB_eq {P : Program} {e : TypeId} {k : IntKind} (h : pairB P e k = true) : ∃ fs : Array Field, P.underlying e = some (.struct fs) ∧ fs.size = 2 ∧ ∀ (i : Nat) (f : Field), fs[i]? = some f → P.underlying f.type = some (.int k) ∧ f.offset = i ∧ P.cellsOf f.type = 1 := by
  unfold pairB at h
  split at h
  . rename_i fs hu
    simp only [Bool.and_eq_true, beq_iff_eq, List.all_eq_true, List.mem_range] at h
    refine ⟨fs, hu, h.1, fun i f hf => ?_⟩
    have hi : i < 2 := by
      obtain ⟨hi, _⟩ := Array.getElem?_eq_some_iff.1 hf
      omega
    have := h.2 i hi
    rw [hf] at this
    simp only [Bool.and_eq_true, beq_iff_eq] at this
    obtain ⟨⟨h1, h2⟩, h3⟩ := this
    split at h1
    . rename_i k' hk
      rw [beq_iff_eq] at h1
      subst h1
      exact ⟨hk, h2, h3⟩
    . cases h1
  . cases h
end Go.Vc
end
section
namespace Go.Vc
open Go.RowKit
theorem AReps.flat_mv {w w' : World} {F F' : Nat → Prop} : ∀ {ks : List Kd} {x : ATup (ks.map AK.dat)} {vs : List Value}, (ks.map AK.dat).all AK.flat = true → AReps w F (ks.map AK.dat) x vs → AReps w' F' (ks.map AK.dat) x vs
  | [], _, _, _, h => h
  | k :: ks, x, vs, hF, h => by
    obtain ⟨v, r, rfl, ⟨cs, h1, h2⟩, h3⟩ := h
    simp only [List.map_cons, List.all_cons, Bool.and_eq_true] at hF
    exact ⟨v, r, rfl, ⟨cs, flat_rep hF.1 h1, h2⟩, AReps.flat_mv hF.2 h3⟩
theorem handles_data : ∀ (ks : List Kd) (vs : List Value), handles (ks.map AK.dat) vs = []
  | [], vs => by cases vs <;> rfl
  | _ :: _, [] => rfl
  | _ :: ks, _ :: vs => handles_data ks vs
theorem lib_ok {P : Program} {gl : Gl} {f : Nat} {fn : Func} (hf : P.funcs[f]? = some fn) (hp : plainFn fn = true) {ks rs : List Kd} {pre : ATup (ks.map AK.dat) → Prop} {post : ATup (ks.map AK.dat) → ATup (rs.map AK.dat) → Prop} (hr : (rs.map AK.dat).all AK.flat = true)
    (hc : ∀ (w : World) (F : Nat → Prop) (x : ATup (ks.map AK.dat)) (vs : List Value), AReps w F (ks.map AK.dat) x vs → GlOk gl w F → pre x →
      Calls P f vs.toArray w fun e w' => Kept (fun _ => False) w w' ∧ ∃ us y, e = .returned (resOf us) ∧ post x y ∧ AReps w (fun _ => False) (rs.map AK.dat) y us) :
    ({ args := ks.map AK.dat, res := rs.map AK.dat, pre := pre, post := post } : Con).ok P gl f := by
  obtain ⟨hb, hn⟩ := plain_body hp
  have h : ({ args := ks.map AK.dat, res := rs.map AK.dat, pre := pre, post := post } : Con).holds P gl f := by
    intro w Fb x vs _ hgl hA _ hpre
    refine (hc w _ x vs hA hgl hpre).mono fun e w' ⟨hk, us, y, he, hy, hR⟩ => .inl ⟨us, y, he, hy, ?_, ?_, ?_, ?_⟩
    . exact ⟨hk.os, hk.tape, hk.output, hk.size, fun b hb _ => hk.block b hb id⟩
    . exact AReps.flat_mv hr hR
    . intro i j v u b hi
      have : handles (rs.map AK.dat) us = [] := handles_data rs us
      rw [show handles _ us = [] from this] at hi
      simp at hi
    . rintro b ⟨v, hv, _⟩
      rw [show handles _ us = [] from handles_data rs us] at hv
      cases hv
  exact ⟨h, callOk_con h (fn_enter hf hn hb)⟩
theorem gl_cons {g g0 : Nat} {x v : GV} {l : Gl} (h : List.lookup g ((g0, x) :: l) = some v) : (g = g0 ∧ v = x) ∨ List.lookup g l = some v := by
  by_cases e : g = g0
  . subst e
    simp [List.lookup] at h
    exact .inl ⟨rfl, h.symm⟩
  . have : (g == g0) = false := by simpa using e
    simp only [List.lookup, this] at h
    exact .inr h
theorem gl_one {g g0 : Nat} {x v : GV} (h : List.lookup g [(g0, x)] = some v) : g = g0 ∧ v = x := by
  by_cases e : g = g0
  . subst e
    simp [List.lookup] at h
    exact ⟨rfl, h.symm⟩
  . have : (g == g0) = false := by simpa using e
    simp [List.lookup, this] at h
def u8s (l : List Int) : List UInt8 := l.map fun c => c.toNat.toUInt8
theorem u8s_bs (s : ByteArray) : u8s (bs s) = s.data.toList := by
  unfold u8s bs
  rw [List.map_map]
  conv => rhs; rw [← List.map_id s.data.toList]
  refine List.map_congr_left fun b _ => ?_
  simp
end Go.Vc
end
