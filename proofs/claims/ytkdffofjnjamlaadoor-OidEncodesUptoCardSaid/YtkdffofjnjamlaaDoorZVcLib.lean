/- Functions of the library whose contracts are proved elsewhere. -/
import Derived.Test.YtkdffofjnjamlaaDoorZVcGl
import Derived.Lib.LaidTab
import Derived.Sort.Grow
set_option linter.unusedVariables false
set_option linter.unusedSimpArgs false
namespace Go.Vc
open Go.RowKit

theorem AReps.flat_mv {w w' : World} {F F' : Nat → Prop} : ∀ {ks : List Kd} {x : ATup (ks.map AK.dat)} {vs : List Value}, (ks.map AK.dat).all AK.flat = true → AReps w F (ks.map AK.dat) x vs → AReps w' F' (ks.map AK.dat) x vs
  | [], _, _, _, h => h
  | k :: ks, x, vs, hF, h => by
    obtain ⟨v, r, rfl, ⟨cs, h1, h2⟩, h3⟩ := h
    simp only [List.map_cons, List.all_cons, Bool.and_eq_true] at hF
    exact ⟨v, r, rfl, ⟨cs, flat_rep hF.1 h1, h2⟩, AReps.flat_mv hF.2 h3⟩

theorem handles_data : ∀ (ks : List Kd) (vs : List Value), handles (ks.map AK.dat) vs = []
  | [], vs => by cases vs <;> rfl
  | _ :: _, [] => rfl
  | _ :: ks, _ :: vs => handles_data ks vs

/-- A function whose run is known: it reads data and gives flat data. -/
theorem lib_ok {P : Program} {gl : Gl} {f : Nat} {fn : Func} (hf : P.funcs[f]? = some fn) (hp : plainFn fn = true) {ks rs : List Kd} {pre : ATup (ks.map AK.dat) → Prop} {post : ATup (ks.map AK.dat) → ATup (rs.map AK.dat) → Prop} (hr : (rs.map AK.dat).all AK.flat = true)
    (hc : ∀ (w : World) (F : Nat → Prop) (x : ATup (ks.map AK.dat)) (vs : List Value), AReps w F (ks.map AK.dat) x vs → GlOk gl w F → pre x →
      Calls P f vs.toArray w fun e w' => Kept (fun _ => False) w w' ∧ ∃ us y, e = .returned (resOf us) ∧ post x y ∧ AReps w (fun _ => False) (rs.map AK.dat) y us) :
    ({ args := ks.map AK.dat, res := rs.map AK.dat, pre := pre, post := post } : Con).ok P gl f := by
  obtain ⟨hb, hn⟩ := plain_body hp
  have h : ({ args := ks.map AK.dat, res := rs.map AK.dat, pre := pre, post := post } : Con).holds P gl f := by
    intro w Fb x vs _ hgl hA _ hpre
    refine (hc w _ x vs hA hgl hpre).mono fun e w' ⟨hk, us, y, he, hy, hR⟩ => .inl ⟨us, y, he, hy, ?_, ?_, ?_, ?_⟩
    · exact ⟨hk.os, hk.tape, hk.output, hk.size, fun b hb _ => hk.block b hb id⟩
    · exact AReps.flat_mv hr hR
    · intro i j v u b hi
      have : handles (rs.map AK.dat) us = [] := handles_data rs us
      rw [show handles _ us = [] from this] at hi
      simp at hi
    · rintro b ⟨v, hv, _⟩
      rw [show handles _ us = [] from handles_data rs us] at hv
      cases hv
  exact ⟨h, callOk_con h (fn_enter hf hn hb)⟩

theorem gl_cons {g g0 : Nat} {x v : GV} {l : Gl} (h : List.lookup g ((g0, x) :: l) = some v) : (g = g0 ∧ v = x) ∨ List.lookup g l = some v := by
  by_cases e : g = g0
  · subst e
    simp [List.lookup] at h
    exact .inl ⟨rfl, h.symm⟩
  · have : (g == g0) = false := by simpa using e
    simp only [List.lookup, this] at h
    exact .inr h
theorem gl_one {g g0 : Nat} {x v : GV} (h : List.lookup g [(g0, x)] = some v) : g = g0 ∧ v = x := by
  by_cases e : g = g0
  · subst e
    simp [List.lookup] at h
    exact ⟨rfl, h.symm⟩
  · have : (g == g0) = false := by simpa using e
    simp [List.lookup, this] at h

def u8s (l : List Int) : List UInt8 := l.map fun c => c.toNat.toUInt8
theorem u8s_bs (s : ByteArray) : u8s (bs s) = s.data.toList := by
  unfold u8s bs
  rw [List.map_map]
  conv => rhs; rw [← List.map_id s.data.toList]
  refine List.map_congr_left fun b _ => ?_
  simp
theorem bs_u8s (l : List UInt8) : bs ⟨l.toArray⟩ = l.map fun b => (b.toNat : Int) := rfl
theorem kept_drewN (w : World) (n : Nat) : Kept (fun _ => False) w (w.drewN n) := ⟨rfl, rfl, rfl, Nat.le_refl _, fun _ _ _ => rfl⟩
theorem below_kept {w w' : World} (h : Below w.heap.size w w') : Kept (fun _ => False) w w' := ⟨h.os, h.tape, h.output, h.size, fun b hb _ => h.block b hb⟩
theorem kept_grow (w : World) (n : Nat) (os : Array Obj) : Kept (fun _ => False) w (Sort.grow (w.drewN n) os) :=
  ⟨rfl, rfl, rfl, by simp [Sort.grow, World.drewN], fun b hb _ => by
    show (w.heap ++ os)[b]? = w.heap[b]?
    rw [Array.getElem?_append_left hb]⟩
/-- A table that a contract of the library asks for. -/
theorem tabIs_raw {P : Program} {w : World} {F : Nat → Prop} {name : String} {k : IntKind} {zs : List Int} {g : Nat} (hg : P.globalNamed name = some g) (h : GV.ok w F g (.raw (zs.map fun z => Value.int k z))) : Lib.TabIs P w name k zs := by
  obtain ⟨t, fr, h1⟩ := h
  unfold Lib.TabIs World.var?
  rw [hg]
  simp only [Option.bind_some, h1]
theorem gl_raw {P : Program} {w : World} {name : String} {k : IntKind} {zs : List Int} {g : Nat} {t e : TypeId} {n : Nat} {d : DataW Unit}
    (hg : P.globalNamed name = some g) (hty : (P.globals[g]?).map (·.type) = some t) (ht : P.underlying t = some (.array n e)) (he : P.underlying e = some (.int k)) (hce : P.cellsOf e = 1) (hct : P.cellsOf t = n)
    (hne : 0 < zs.length) (hd : d = Lib.tabData k zs) (h : Lib.VarReads P w name d) : g < w.heap.size ∧ ¬ False ∧ GV.ok w (fun _ => False) g (.raw (zs.map fun z => Value.int k z)) := by
  subst hd
  obtain ⟨g', t', cs, fuel, p, hg', ht', hvar, hd⟩ := h
  obtain rfl := Option.some.inj (hg.symm.trans hg')
  obtain rfl := Option.some.inj (hty.symm.trans ht')
  have hc := Lib.cells_of_tab ht he hce hct hd
  unfold World.var? at hvar
  rw [hg] at hvar
  simp only [Option.bind_some] at hvar
  split at hvar
  · rename_i cs' t fr h1
    have e1 := Option.some.inj hvar
    subst e1
    refine ⟨(Array.getElem?_eq_some_iff.1 h1).1, id, t, fr, ?_⟩
    rw [h1, ← hc]
  · cases hvar
/-- Texts in a row, as the library holds them. -/
theorem texts_of {w : World} {F : Nat → Prop} {ad : Addr} : ∀ {l : List (List Int)}, Els w (Rep w F .str) 1 ad l → (l ≠ [] → ad.spot = none) ∧ ∃ xs : List ByteArray, xs.map bs = l ∧ ∀ (j : Nat) (x : ByteArray), xs[j]? = some x → w.cell? (ad.add j) = some (.string x) := by
  intro l h
  have one : ∀ (i : Nat) (x : List Int), l[i]? = some x → bs ⟨(u8s x).toArray⟩ = x ∧ w.cell? (ad.add i) = some (.string ⟨(u8s x).toArray⟩) := fun i x hx => by
    obtain ⟨ecs, h1, h2⟩ := h i x hx
    obtain ⟨s, rfl, rfl, _⟩ := h1
    have e : (⟨(u8s (bs s)).toArray⟩ : ByteArray) = s := by rw [u8s_bs]
    rw [e]
    have := h2 0 _ rfl
    rw [Nat.mul_one, Nat.add_zero] at this
    exact ⟨rfl, this⟩
  refine ⟨fun hne => ?_, l.map fun x => ⟨(u8s x).toArray⟩, ?_, fun j x hx => ?_⟩
  · cases l with
    | nil => exact absurd rfl hne
    | cons x r =>
      have := (one 0 x rfl).2
      cases hs : ad.spot with
      | none => rfl
      | some p =>
        exfalso
        unfold World.cell? at this
        split at this
        · have e : (ad.add 0).spot = ad.spot := by unfold Addr.add; split <;> simp_all
          rw [e, hs] at this
          simp at this
        · cases this
  · rw [List.map_map]
    conv => rhs; rw [← List.map_id l]
    refine List.map_congr_left fun x hx => ?_
    obtain ⟨i, hi⟩ := List.mem_iff_getElem?.1 hx
    exact (one i x hi).1
  · rw [List.getElem?_map, Option.map_eq_some_iff] at hx
    obtain ⟨y, hy, rfl⟩ := hx
    exact (one j y hy).2
end Go.Vc
