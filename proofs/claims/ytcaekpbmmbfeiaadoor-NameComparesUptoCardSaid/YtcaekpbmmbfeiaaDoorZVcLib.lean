/- Functions of the library whose contracts are proved elsewhere. -/
import Derived.Test.YtcaekpbmmbfeiaaDoorZVcGl
set_option linter.unusedVariables false
set_option linter.unusedSimpArgs false
namespace Go.Vc
open Go.RowKit

theorem AReps.flat_mv {w w' : World} {F F' : Nat → Prop} : ∀ {ks : List Kd} {x : ATup (ks.map AK.dat)} {vs : List Value}, (ks.map AK.dat).all AK.flat = true → AReps w F (ks.map AK.dat) x vs → AReps w' F' (ks.map AK.dat) x vs
  | [], _, _, _, h => h
  | k :: ks, x, vs, hF, h => by
    obtain ⟨v, r, rfl, ⟨cs, h1, h2⟩, h3⟩ := h
    simp only [List.map_cons, List.all_cons, Bool.and_eq_true] at hF
    exact ⟨v, r, rfl, ⟨cs, flat_rep hF.1 h1, h2⟩, AReps.flat_mv hF.2 h3⟩

theorem handles_data : ∀ (ks : List Kd) (vs : List Value), handles (ks.map AK.dat) vs = []
  | [], vs => by cases vs <;> rfl
  | _ :: _, [] => rfl
  | _ :: ks, _ :: vs => handles_data ks vs

/-- A function whose run is known: it reads data and gives flat data. -/
theorem lib_ok {P : Program} {gl : Gl} {f : Nat} {fn : Func} (hf : P.funcs[f]? = some fn) (hp : plainFn fn = true) {ks rs : List Kd} {pre : ATup (ks.map AK.dat) → Prop} {post : ATup (ks.map AK.dat) → ATup (rs.map AK.dat) → Prop} (hr : (rs.map AK.dat).all AK.flat = true)
    (hc : ∀ (w : World) (F : Nat → Prop) (x : ATup (ks.map AK.dat)) (vs : List Value), AReps w F (ks.map AK.dat) x vs → GlOk gl w F → pre x →
      Calls P f vs.toArray w fun e w' => Kept (fun _ => False) w w' ∧ ∃ us y, e = .returned (resOf us) ∧ post x y ∧ AReps w (fun _ => False) (rs.map AK.dat) y us) :
    ({ args := ks.map AK.dat, res := rs.map AK.dat, pre := pre, post := post } : Con).ok P gl f := by
  obtain ⟨hb, hn⟩ := plain_body hp
  have h : ({ args := ks.map AK.dat, res := rs.map AK.dat, pre := pre, post := post } : Con).holds P gl f := by
    intro w Fb x vs _ hgl hA _ hpre
    refine (hc w _ x vs hA hgl hpre).mono fun e w' ⟨hk, us, y, he, hy, hR⟩ => .inl ⟨us, y, he, hy, ?_, ?_, ?_, ?_⟩
    · exact ⟨hk.os, hk.tape, hk.output, hk.size, fun b hb _ => hk.block b hb id⟩
    · exact AReps.flat_mv hr hR
    · intro i j v u b hi
      have : handles (rs.map AK.dat) us = [] := handles_data rs us
      rw [show handles _ us = [] from this] at hi
      simp at hi
    · rintro b ⟨v, hv, _⟩
      rw [show handles _ us = [] from handles_data rs us] at hv
      cases hv
  exact ⟨h, callOk_con h (fn_enter hf hn hb)⟩

theorem gl_cons {g g0 : Nat} {x v : GV} {l : Gl} (h : List.lookup g ((g0, x) :: l) = some v) : (g = g0 ∧ v = x) ∨ List.lookup g l = some v := by
  by_cases e : g = g0
  · subst e
    simp [List.lookup] at h
    exact .inl ⟨rfl, h.symm⟩
  · have : (g == g0) = false := by simpa using e
    simp only [List.lookup, this] at h
    exact .inr h
theorem gl_one {g g0 : Nat} {x v : GV} (h : List.lookup g [(g0, x)] = some v) : g = g0 ∧ v = x := by
  by_cases e : g = g0
  · subst e
    simp [List.lookup] at h
    exact ⟨rfl, h.symm⟩
  · have : (g == g0) = false := by simpa using e
    simp [List.lookup, this] at h

def u8s (l : List Int) : List UInt8 := l.map fun c => c.toNat.toUInt8
theorem u8s_bs (s : ByteArray) : u8s (bs s) = s.data.toList := by
  unfold u8s bs
  rw [List.map_map]
  conv => rhs; rw [← List.map_id s.data.toList]
  refine List.map_congr_left fun b _ => ?_
  simp
theorem bs_u8s (l : List UInt8) : bs ⟨l.toArray⟩ = l.map fun b => (b.toNat : Int) := rfl
theorem kept_drewN (w : World) (n : Nat) : Kept (fun _ => False) w (w.drewN n) := ⟨rfl, rfl, rfl, Nat.le_refl _, fun _ _ _ => rfl⟩
end Go.Vc
