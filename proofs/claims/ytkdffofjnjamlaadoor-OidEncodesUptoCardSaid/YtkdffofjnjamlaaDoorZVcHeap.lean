/- How the objects of a walk change. -/
import Derived.Test.YtkdffofjnjamlaaDoorZVcState
set_option linter.unusedVariables false
set_option linter.unusedSimpArgs false
namespace Go.Vc
open Go.RowKit

theorem HRel.live_block {B : Base} {w0 : World} {ρ : Nat → Value} {hp : List (Option Ob)} {w : World} (h : HRel B w0 ρ hp w) {n b : Nat} (hl : live hp n) (hb : blk (ρ n) = some b) : b < w.heap.size := by
  obtain ⟨o, ho⟩ := hl
  exact (h.obj n o ho).lt b hb

theorem live_lt {hp : List (Option Ob)} {n : Nat} (h : live hp n) : n < hp.length := by
  obtain ⟨o, ho⟩ := h
  exact (List.getElem?_eq_some_iff.1 ho).1

theorem HRel.forb_lt {B : Base} {w0 : World} {ρ : Nat → Value} {hp : List (Option Ob)} {w : World} (h : HRel B w0 ρ hp w) {b : Nat} (hb : Forb B ρ hp b) : b < w.heap.size := by
  rcases hb with hb | ⟨n, hl, hb⟩
  · exact Nat.lt_of_lt_of_le (h.fb b hb).1 h.kept.size
  · exact h.live_block hl hb

/-- How one object is new, or turned: what goes over. -/
structure Turn (B : Base) (ρ ρ' : Nat → Value) (hp hp' : List (Option Ob)) (w w' : World) (p : Nat) (M : Option Nat) : Prop where
  N : hp.length ≤ hp'.length
  rho : ∀ n, n < hp.length → ρ' n = ρ n
  other : ∀ (m : Nat) (o : Ob), m ≠ p → hp'[m]? = some (some o) → hp[m]? = some (some o)
  mod : ∀ b, M = some b → ∃ n, live hp n ∧ blk (ρ n) = some b ∧ (n = p ∨ ¬ live hp' n)
  gw : w.grownBy w' M
  bl : ∀ b, live hp' p → blk (ρ' p) = some b → w.heap.size ≤ b ∨ ∃ n, live hp n ∧ blk (ρ n) = some b ∧ (n = p ∨ ¬ live hp' n)

theorem Turn.le {B : Base} {ρ ρ' : Nat → Value} {hp hp' : List (Option Ob)} {w w' : World} {p : Nat} {M : Option Nat} (t : Turn B ρ ρ' hp hp' w w' p M) :
    (cx B ρ hp w).le (cx B ρ' hp' w') where
  size := t.gw.size
  same b hb hF := t.gw.block b hb (fun e => by
    obtain ⟨n, hl, he, _⟩ := t.mod b e.symm
    exact hF (.inr ⟨n, hl, he⟩))
  F b hb hF := by
    rcases hF with hF | ⟨n, hl, he⟩
    · exact .inl hF
    · by_cases e : n = p
      · subst e
        rcases t.bl b hl he with h | ⟨m, hm, hmb, _⟩
        · exact absurd hb (by simp only [] at *; omega)
        · exact .inr ⟨m, hm, hmb⟩
      · obtain ⟨o, ho⟩ := hl
        have ho' := t.other n o e ho
        have hlt := live_lt ⟨o, ho'⟩
        exact .inr ⟨n, ⟨o, ho'⟩, by rw [← t.rho n hlt]; exact he⟩
  N := t.N
  ρ := t.rho
  lp := rfl

theorem Turn.hrel {B : Base} {w0 : World} {ρ ρ' : Nat → Value} {hp hp' : List (Option Ob)} {w w' : World} {p : Nat} {M : Option Nat} (t : Turn B ρ ρ' hp hp' w w' p M)
    (h : HRel B w0 ρ hp w) (hp0 : ∀ o, hp'[p]? = some (some o) → o.rel (cx B ρ' hp' w') (ρ' p)) : HRel B w0 ρ' hp' w' where
  kept := h.kept.trans (S' := fun b => M = some b) ⟨t.gw.os, t.gw.tape, t.gw.output, t.gw.size, fun b hb hn => t.gw.block b hb (fun e => hn e.symm)⟩ (fun b hb e => by
    obtain ⟨n, hl, he, _⟩ := t.mod b e
    exact (h.own n b hl he).1.resolve_left (by omega))
  obj n o ho := by
    by_cases e : n = p
    · subst e; exact hp0 o ho
    · have ho' := t.other n o e ho
      have hlt := live_lt ⟨o, ho'⟩
      rw [t.rho n hlt]
      refine (h.obj n o ho').le t.le (fun b hb => t.gw.block b (h.live_block ⟨o, ho'⟩ hb) (fun eM => ?_))
      obtain ⟨m, hm, hmb, hcase⟩ := t.mod b eM.symm
      have := h.sep m n b hm ⟨o, ho'⟩ hmb hb
      subst this
      rcases hcase with hc | hc
      · exact e hc
      · exact hc ⟨o, ho⟩
  sep n m b hn hm hnb hmb := by
    have key : ∀ n m, live hp' n → live hp' m → blk (ρ' n) = some b → blk (ρ' m) = some b → n ≠ p → m = p → n = m := by
      intro n m hn hm hnb hmb hne e
      subst e
      obtain ⟨o, ho⟩ := hn
      have ho' := t.other n o hne ho
      have hlt := live_lt ⟨o, ho'⟩
      rw [t.rho n hlt] at hnb
      have hlb := h.live_block ⟨o, ho'⟩ hnb
      rcases t.bl b hm hmb with h1 | ⟨q, hq, hqb, hcase⟩
      · omega
      · have := h.sep q n b hq ⟨o, ho'⟩ hqb hnb
        subst this
        rcases hcase with hc | hc
        · exact hc
        · exact absurd ⟨o, ho⟩ hc
    by_cases e1 : n = p
    · by_cases e2 : m = p
      · rw [e1, e2]
      · exact (key m n hm hn hmb hnb e2 e1).symm
    · by_cases e2 : m = p
      · exact key n m hn hm hnb hmb e1 e2
      · obtain ⟨o, ho⟩ := hn
        obtain ⟨o2, ho2⟩ := hm
        have ho' := t.other n o e1 ho
        have ho2' := t.other m o2 e2 ho2
        have hlt := live_lt ⟨o, ho'⟩
        have hlt2 := live_lt ⟨o2, ho2'⟩
        rw [t.rho n hlt] at hnb
        rw [t.rho m hlt2] at hmb
        exact h.sep n m b ⟨o, ho'⟩ ⟨o2, ho2'⟩ hnb hmb
  own n b hn hnb := by
    by_cases e : n = p
    · subst e
      rcases t.bl b hn hnb with h1 | ⟨q, hq, hqb, _⟩
      · refine ⟨.inl (Nat.le_trans h.kept.size h1), fun hc => ?_⟩
        have := (h.fb b hc).1
        have := h.kept.size
        omega
      · exact h.own q b hq hqb
    · obtain ⟨o, ho⟩ := hn
      have ho' := t.other n o e ho
      have hlt := live_lt ⟨o, ho'⟩
      rw [t.rho n hlt] at hnb
      exact h.own n b ⟨o, ho'⟩ hnb
  fb := h.fb

/-- Everything but one object goes over. -/
theorem StRel.turn {B : Base} {ρ ρ' : Nat → Value} {st : St} {a : Act} {fs : List Act} {hp' : List (Option Ob)} {w w' : World} {p : Nat} {M : Option Nat}
    (h : StRel B ρ st a fs w) (t : Turn B ρ ρ' st.hp hp' w w' p M) (hp0 : ∀ o, hp'[p]? = some (some o) → o.rel (cx B ρ' hp' w') (ρ' p)) : StRel B ρ' { st with hp := hp' } a fs w' :=
  ⟨t.hrel h.h hp0, h.s.le t.le, h.kn, h.k.le t.le, h.d.le t.le, h.g⟩

/-- The world draws. -/
theorem StRel.same_heap {B : Base} {ρ : Nat → Value} {st : St} {a : Act} {fs : List Act} {w w' : World} (h : StRel B ρ st a fs w)
    (hos : w'.os = w.os) (ht : w'.tape = w.tape) (ho : w'.output = w.output) (hh : w'.heap = w.heap) : StRel B ρ st a fs w' := by
  have le : (cx B ρ st.hp w).le (cx B ρ st.hp w') := ⟨by simp [hh], fun b _ _ => by simp [hh], fun _ _ h => h, Nat.le_refl _, fun _ _ => rfl, rfl⟩
  refine ⟨⟨⟨hos.trans h.h.kept.os, ht.trans h.h.kept.tape, ho.trans h.h.kept.output, by rw [hh]; exact h.h.kept.size, fun b hb hn => by rw [hh]; exact h.h.kept.block b hb hn⟩,
    fun n o ho => (h.h.obj n o ho).le le (fun b _ => by simp [hh]), h.h.sep, h.h.own, h.h.fb⟩, h.s.le le, h.kn, h.k.le le, h.d.le le, h.g⟩

def upd (ρ : Nat → Value) (n : Nat) (v : Value) : Nat → Value := fun m => if m = n then v else ρ m
theorem upd_same (ρ : Nat → Value) (n : Nat) (v : Value) : upd ρ n v n = v := by simp [upd]
theorem upd_lt (ρ : Nat → Value) (n : Nat) (v : Value) (m : Nat) (h : m < n) : upd ρ n v m = ρ m := by simp [upd]; omega

/-- A new object. -/
theorem Turn.new {B : Base} {ρ : Nat → Value} {hp : List (Option Ob)} {w w' : World} {o : Ob} {v : Value} (hw : w.grownBy w' none) (hb : ∀ b, blk v = some b → w.heap.size ≤ b) :
    Turn B ρ (upd ρ hp.length v) hp (hp ++ [some o]) w w' hp.length none where
  N := by simp
  rho n hn := upd_lt ρ _ v n hn
  other m o' hm ho := by
    have hlt := (List.getElem?_eq_some_iff.1 ho).1
    simp at hlt
    rwa [List.getElem?_append_left (by omega)] at ho
  mod b hb := by cases hb
  gw := hw
  bl b _ hb' := by rw [upd_same] at hb'; exact .inl (hb b hb')

theorem getElem?_snoc {α : Type} (l : List α) (x : α) : (l ++ [x])[l.length]? = some x := by simp

/-- An object in its place is turned. -/
theorem Turn.at {B : Base} {ρ : Nat → Value} {hp : List (Option Ob)} {w w' : World} {o o' : Ob} {n : Nat} {M : Option Nat} (hn : hp[n]? = some (some o)) (hw : w.grownBy w' M)
    (hM : ∀ b, M = some b → blk (ρ n) = some b) : Turn B ρ ρ hp (hp.set n (some o')) w w' n M where
  N := by simp
  rho _ _ := rfl
  other m o2 hm ho := by rwa [List.getElem?_set_ne (Ne.symm hm)] at ho
  mod b hb := ⟨n, ⟨o, hn⟩, hM b hb, .inl rfl⟩
  gw := hw
  bl b _ hb := .inr ⟨n, ⟨o, hn⟩, hb, .inl rfl⟩

/-- An object is turned, and has another name from now on. -/
theorem Turn.renew {B : Base} {ρ : Nat → Value} {hp : List (Option Ob)} {w w' : World} {o o' : Ob} {n : Nat} {v : Value} {M : Option Nat} (hn : hp[n]? = some (some o)) (hw : w.grownBy w' M)
    (hM : ∀ b, M = some b → blk (ρ n) = some b) (hb : ∀ b, blk v = some b → w.heap.size ≤ b ∨ blk (ρ n) = some b) :
    Turn B ρ (upd ρ hp.length v) hp (hp.set n none ++ [some o']) w w' hp.length M := by
  have hlt := (List.getElem?_eq_some_iff.1 hn).1
  have hdead : ¬ live (hp.set n none ++ [some o']) n := by
    rintro ⟨o2, ho2⟩
    rw [List.getElem?_append_left (by simpa using hlt), List.getElem?_set_self (by simpa using hlt)] at ho2
    cases ho2
  exact {
    N := by simp
    rho := fun m hm => upd_lt ρ _ v m hm
    other := fun m o2 hm ho => by
      have hl := (List.getElem?_eq_some_iff.1 ho).1
      simp at hl
      rw [List.getElem?_append_left (by simp; omega)] at ho
      by_cases e : m = n
      · subst e
        rw [List.getElem?_set_self (by simpa using hlt)] at ho
        cases ho
      · rwa [List.getElem?_set_ne (Ne.symm e)] at ho
    mod := fun b hb => ⟨n, ⟨o, hn⟩, hM b hb, .inr hdead⟩
    gw := hw
    bl := fun b _ hb' => by
      rw [upd_same] at hb'
      rcases hb b hb' with h1 | h1
      · exact .inl h1
      · exact .inr ⟨n, ⟨o, hn⟩, h1, .inr hdead⟩ }
end Go.Vc
