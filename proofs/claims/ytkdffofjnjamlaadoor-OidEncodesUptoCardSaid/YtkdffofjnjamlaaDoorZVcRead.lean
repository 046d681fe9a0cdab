/- Conversions, lengths, reads of memory; one function for all operations that change nothing. -/
import Derived.Test.YtkdffofjnjamlaaDoorZVcPure
set_option linter.unusedVariables false
set_option linter.unusedSimpArgs false
namespace Go.Vc
open Go.RowKit

def Ob.row? : Option (Option Ob) → Option (Nat × ((k : Kd) × List k.T))
  | some (some (.row e k xs)) => some (e, ⟨k, xs⟩)
  | _ => none

/-- A state's row. -/
def St.row (st : St) (n : Nat) : Option ((k : Kd) × List k.T) :=
  match st.hp[n]? with
  | some (some (.row _ k xs)) => some ⟨k, xs⟩
  | _ => none

theorem St.row_some {st : St} {n : Nat} {k : Kd} {xs : List k.T} (h : st.row n = some ⟨k, xs⟩) : ∃ e, st.hp[n]? = some (some (.row e k xs)) := by
  unfold St.row at h
  split at h
  · rename_i e k' xs' he
    cases h
    exact ⟨e, he⟩
  · cases h

def castT {a b : Kd} (h : a = b) (x : a.T) : b.T := h ▸ x
theorem castT_rfl {a : Kd} (x : a.T) : castT rfl x = x := rfl

/-- A slice's elements, as they can be read: data, a row, a part of a row, nil. -/
def St.list (st : St) : SV → Option ((k : Kd) × List k.T)
  | .dat (.sl k) xs => some ⟨k, xs⟩
  | .own n => st.row n
  | .sub n k0 off len => match st.row n with | some ⟨k, xs⟩ => if k = k0 then some ⟨k, (xs.drop off).take len⟩ else none | none => none
  | _ => none

theorem addr_add (g o j : Nat) : (⟨g, o, none⟩ : Addr).add j = ⟨g, o + j, none⟩ := by
  unfold Addr.add
  split
  · rename_i h; rw [h]; rfl
  · rfl

theorem addr_add_add (a : Addr) (i j : Nat) : (a.add i).add j = a.add (i + j) := by
  by_cases hi : i = 0
  · subst hi; simp [Addr.add]
  · by_cases hj : j = 0
    · subst hj; simp [Addr.add, hi]
    · simp [Addr.add, hi, hj, Nat.add_assoc]

/-- What a row is in the world. -/
theorem row_rel {C : Cx} {e : Nat} {k : Kd} {xs : List k.T} {v : Value} (h : (Ob.row e k xs).rel C v) :
    ∃ (A : Option Addr) (c : Nat), v = .slice A xs.length c ∧ xs.length ≤ c ∧ c ≤ 9223372036854775807 ∧ (A = none → c = 0 ∧ xs = []) ∧
      ∀ ad, A = some ad → ad.off = 0 ∧ ad.spot = none ∧ ad.block < C.w.heap.size ∧ Els C.w (Rep C.w C.F k) k.sz ad xs ∧ ∃ cells e0 fz, C.w.heap[ad.block]? = some (.cells cells e0 fz) ∧ cells.size = c * k.sz := by
  obtain ⟨inner, ho, hr⟩ := h
  obtain ⟨hl, ⟨rfl, h0⟩ | ⟨g, cap, cur, e0, fz, rfl, hh, hz, hn, hm, hs, htake⟩⟩ := ho.form
  · have : xs = [] := List.eq_nil_of_length_eq_zero h0
    subst this
    exact ⟨none, 0, rfl, Nat.le_refl _, by omega, fun _ => ⟨rfl, rfl⟩, fun ad h => by cases h⟩
  · refine ⟨_, cap, rfl, hn, by simp only [maxLen] at hm; omega, (fun h => by cases h), fun ad h => ?_⟩
    cases h
    refine ⟨rfl, rfl, (Array.getElem?_eq_some_iff.1 hh).1, fun i x hx => ⟨_, hr i x hx, fun j u hu => ?_⟩, cur, e0, fz, hh, hs⟩
    rw [List.getElem?_take] at hu
    split at hu
    · rw [List.getElem?_drop, ← htake, List.getElem?_take] at hu
      split at hu
      · rw [addr_add]
        simp only [World.cell?, hh]
        simpa using hu
      · cases hu
    · cases hu

/-- What a slice that can be read is in the world. -/
theorem list_rel {B : Base} {ρ : Nat → Value} {st : St} {a : Act} {fs : List Act} {w : World} (h : StRel B ρ st a fs w) {s : SV} {v : Value} (hs : s.rel (cx B ρ st.hp w) v)
    {k : Kd} {xs : List k.T} (hl : st.list s = some ⟨k, xs⟩) :
    ∃ (A : Option Addr) (c : Nat), v = .slice A xs.length c ∧ xs.length ≤ c ∧ c ≤ 9223372036854775807 ∧
      (xs ≠ [] → ∃ ad, A = some ad ∧ ad.block < w.heap.size ∧ Els w (Rep w (Forb B ρ st.hp) k) k.sz ad xs) := by
  cases s <;> simp only [St.list] at hl <;> try (cases hl; done)
  case dat k' x =>
    cases k' <;> simp only at hl <;> try (cases hl; done)
    cases hl
    obtain ⟨A, c, e, h1, h2, h3⟩ := VRep_sl.1 hs
    exact ⟨A, c, e, h1, h2, fun hne => by obtain ⟨ad, h4, h5, _, h6⟩ := h3 hne; exact ⟨ad, h4, h5, h6⟩⟩
  case own n =>
    obtain ⟨e, he⟩ := St.row_some hl
    obtain ⟨A, c, e1, h1, h2, h3, h4⟩ := row_rel (h.h.obj n _ he)
    refine ⟨A, c, hs.2.1.trans e1, h1, h2, fun hne => ?_⟩
    cases A with
    | none => exact absurd (h3 rfl).2 hne
    | some ad => obtain ⟨_, _, h5, h6, _⟩ := h4 ad rfl; exact ⟨ad, rfl, h5, h6⟩
  case sub n k0 off len =>
    split at hl
    · rename_i k' xs' hrow
      split at hl
      · rename_i hk
        subst hk
        cases hl
        obtain ⟨e, he⟩ := St.row_some hrow
        obtain ⟨A, c, e1, h1, h2, h3, h4⟩ := row_rel (h.h.obj n _ he)
        obtain ⟨_, A0, m, cap, A', cc, e2, e3, h5, hc1, hc2, h6⟩ := hs
        simp only at e2
        rw [e1] at e2
        simp only [Value.slice.injEq] at e2
        obtain ⟨rfl, rfl, rfl⟩ := e2
        have hlen : ((xs'.drop off).take len).length = len := by simp; omega
        refine ⟨A', cc, by rw [hlen]; exact e3, by omega, by omega, fun hne => ?_⟩
        have hpos : 0 < len := by
          rcases Nat.eq_zero_or_pos len with h0 | h0
          · subst h0; simp at hne
          · exact h0
        cases A with
        | none =>
          have := (h3 rfl).2
          subst this
          simp at h5
          omega
        | some ad =>
          rcases h6 with rfl | h6
          · obtain ⟨_, _, h7, h8, _⟩ := h4 ad rfl
            refine ⟨_, rfl, by rw [add_block]; exact h7, fun i x hx => ?_⟩
            rw [List.getElem?_take] at hx
            split at hx
            · rw [List.getElem?_drop] at hx
              obtain ⟨ecs, hr, hc⟩ := h8 (off + i) x hx
              refine ⟨ecs, hr, fun j u hu => ?_⟩
              have := hc j u hu
              rw [addr_add_add, ← Nat.add_assoc, ← Nat.add_mul]
              exact this
            · cases hx
          · omega
      · cases hl
    · cases hl

/-! ### A value's cells -/
def leaves : (k : Kd) → k.T → List SV
  | .pair a b, x => leaves a x.1 ++ leaves b x.2
  | .unit, _ => []
  | .int k, x => [.dat (.int k) x]
  | .bool, x => [.dat .bool x]
  | .str, x => [.dat .str x]
  | .sl k, x => [.dat (.sl k) x]

/-- Is it one cell? -/
def SV.one : SV → Bool
  | .dat k _ => !k.isAgg
  | .cst c => c.oneCell'
  | .tup _ | .agg _ | .junk | .gd _ _ => false
  | _ => true

def SV.cells : SV → Option (List SV)
  | .dat k x => some (leaves k x)
  | .agg l => if l.all SV.one then some l else none
  | .tup _ | .junk | .gd _ _ => none
  | .cst c => if c.oneCell' then some [.cst c] else none
  | s => some [s]

def nilSlice : Value → Bool
  | .slice none 0 0 => true
  | _ => false
theorem nilSlice_eq {v : Value} (h : nilSlice v = true) : v = .slice none 0 0 := by
  unfold nilSlice at h
  split at h
  · rfl
  · cases h

def nilAs : (k : Kd) → Bool → Option k.T
  | .sl _, true => some []
  | _, _ => none
def cstAs : (k : Kd) → Value → Option k.T
  | .bool, .bool b => some b
  | k, c => nilAs k (nilSlice c)

def SV.as (k : Kd) : SV → Option k.T
  | .dat k' x => if h : k' = k then some (castT h x) else none
  | .cst c => cstAs k c
  | _ => none

def unleaf : (k : Kd) → List SV → Option (k.T × List SV)
  | .pair a b, l => match unleaf a l with
    | some (x, l1) => match unleaf b l1 with
      | some (y, l2) => some ((x, y), l2)
      | none => none
    | none => none
  | .unit, l => some ((), l)
  | .int k, s :: l => match s.as (.int k) with | some x => some (x, l) | none => none
  | .bool, s :: l => match s.as .bool with | some x => some (x, l) | none => none
  | .str, s :: l => match s.as .str with | some x => some (x, l) | none => none
  | .sl k, s :: l => match s.as (.sl k) with | some x => some (x, l) | none => none
  | _, [] => none

theorem as_rel {C : Cx} {s : SV} {k : Kd} {x : k.T} {v : Value} (h : s.as k = some x) (hs : s.rel C v) : VRep C.w C.F k x v := by
  cases s <;> simp only [SV.as] at h <;> try (cases h; done)
  case dat k' y =>
    split at h
    · rename_i e
      subst e
      cases h
      exact hs
    · cases h
  case cst c =>
    have hs : v = c := hs
    unfold cstAs at h
    split at h
    · cases h; exact VRep_bool.2 hs
    cases hb : nilSlice c with
    | false => rw [hb] at h; cases k <;> cases h
    | true =>
      rw [hb] at h
      cases k <;> try (cases h; done)
      cases h
      exact VRep_sl.2 ⟨none, 0, by rw [hs, nilSlice_eq hb]; rfl, Nat.le_refl _, by omega, fun h => absurd rfl h⟩

theorem VRep_one {w : World} {F : Nat → Prop} {k : Kd} {x : k.T} {v : Value} (hk : k.isAgg = false) : VRep w F k x v ↔ Rep w F k x [v] := by
  constructor
  · rintro ⟨cs, h1, h2⟩
    rw [hk] at h2
    simp only [Bool.false_eq_true, if_false] at h2
    rw [← h2]; exact h1
  · intro h
    exact ⟨_, h, by simp [hk]⟩

theorem rels_append {C : Cx} : ∀ {l m : List SV} {vs us : List Value}, SV.rels C l vs → SV.rels C m us → SV.rels C (l ++ m) (vs ++ us)
  | [], _, _, _, h, k => by
    have h : _ = _ := h
    subst h; exact k
  | s :: l, m, vs, us, h, k => by
    obtain ⟨v, r, rfl, h1, h2⟩ := h
    exact ⟨v, r ++ us, rfl, h1, rels_append h2 k⟩

theorem rels_length {C : Cx} : ∀ {l : List SV} {vs : List Value}, SV.rels C l vs → vs.length = l.length
  | [], _, h => by have h : _ = _ := h; subst h; rfl
  | _ :: _, _, h => by obtain ⟨v, r, rfl, _, h2⟩ := h; simp [rels_length h2]

theorem rels_get {C : Cx} : ∀ {l : List SV} {vs : List Value}, SV.rels C l vs → ∀ {i : Nat} {s : SV}, l[i]? = some s → ∃ v, vs[i]? = some v ∧ s.rel C v
  | [], _, _, _, _, hi => by cases hi
  | s :: l, _, h, i, s', hi => by
    obtain ⟨v, r, rfl, h1, h2⟩ := h
    cases i with
    | zero => cases hi; exact ⟨v, rfl, h1⟩
    | succ i => exact rels_get h2 (i := i) hi

theorem rels_drop {C : Cx} : ∀ (n : Nat) {l : List SV} {vs : List Value}, SV.rels C l vs → SV.rels C (l.drop n) (vs.drop n)
  | 0, _, _, h => h
  | n + 1, [], _, h => by have h : _ = _ := h; subst h; rfl
  | n + 1, _ :: l, _, h => by obtain ⟨v, r, rfl, _, h2⟩ := h; exact rels_drop n h2

theorem rels_take {C : Cx} : ∀ (n : Nat) {l : List SV} {vs : List Value}, SV.rels C l vs → SV.rels C (l.take n) (vs.take n)
  | 0, _, _, _ => rfl
  | n + 1, [], _, h => by have h : _ = _ := h; subst h; rfl
  | n + 1, _ :: l, _, h => by obtain ⟨v, r, rfl, h1, h2⟩ := h; exact ⟨v, r.take n, rfl, h1, rels_take n h2⟩

theorem leaves_rel {C : Cx} : ∀ {k : Kd} {x : k.T} {cs : List Value}, Rep C.w C.F k x cs → SV.rels C (leaves k x) cs
  | .pair a b, x, _, h => by
    obtain ⟨c1, c2, rfl, h1, h2⟩ := h
    exact rels_append (leaves_rel h1) (leaves_rel h2)
  | .unit, _, _, h => h
  | .int k, x, cs, h => ⟨_, [], by rw [h.1], VRep_int.2 ⟨rfl, h.2⟩, rfl⟩
  | .bool, x, cs, h => ⟨_, [], h, VRep_bool.2 rfl, rfl⟩
  | .str, x, cs, h => by
    obtain ⟨s, rfl, h2⟩ := h
    exact ⟨_, [], rfl, VRep_str.2 ⟨s, rfl, h2⟩, rfl⟩
  | .sl k, x, cs, h => by
    obtain ⟨A, c, rfl, h2⟩ := h
    exact ⟨_, [], rfl, VRep_sl.2 ⟨A, c, rfl, h2⟩, rfl⟩

theorem unleaf_one {C : Cx} {k : Kd} {s : SV} {l : List SV} {vs : List Value} {x : k.T} (hk : k.isAgg = false) (hx : s.as k = some x) (hr : SV.rels C (s :: l) vs) :
    ∃ vs1 vs2, vs = vs1 ++ vs2 ∧ Rep C.w C.F k x vs1 ∧ SV.rels C l vs2 := by
  obtain ⟨v, r, rfl, h1, h2⟩ := hr
  exact ⟨[v], r, rfl, (VRep_one hk).1 (as_rel hx h1), h2⟩

theorem unleaf_rel {C : Cx} : ∀ {k : Kd} {l l' : List SV} {vs : List Value} {x : k.T}, unleaf k l = some (x, l') → SV.rels C l vs →
    ∃ vs1 vs2, vs = vs1 ++ vs2 ∧ Rep C.w C.F k x vs1 ∧ SV.rels C l' vs2
  | .pair a b, l, l', vs, x, h, hr => by
    simp only [unleaf] at h
    split at h
    · rename_i x1 l1 e1
      split at h
      · rename_i x2 l2 e2
        cases h
        obtain ⟨v1, v2, rfl, h1, h2⟩ := unleaf_rel e1 hr
        obtain ⟨v3, v4, rfl, h3, h4⟩ := unleaf_rel e2 h2
        exact ⟨v1 ++ v3, v4, by simp, ⟨v1, v3, rfl, h1, h3⟩, h4⟩
      · cases h
    · cases h
  | .unit, l, l', vs, x, h, hr => by
    cases h
    exact ⟨[], vs, rfl, rfl, hr⟩
  | .int k, s :: l, l', vs, x, h, hr => by
    simp only [unleaf] at h
    split at h
    · rename_i y e; cases h; exact unleaf_one rfl e hr
    · cases h
  | .bool, s :: l, l', vs, x, h, hr => by
    simp only [unleaf] at h
    split at h
    · rename_i y e; cases h; exact unleaf_one rfl e hr
    · cases h
  | .str, s :: l, l', vs, x, h, hr => by
    simp only [unleaf] at h
    split at h
    · rename_i y e; cases h; exact unleaf_one rfl e hr
    · cases h
  | .sl k, s :: l, l', vs, x, h, hr => by
    simp only [unleaf] at h
    split at h
    · rename_i y e; cases h; exact unleaf_one rfl e hr
    · cases h
  | .int _, [], _, _, _, h, _ => by cases h
  | .bool, [], _, _, _, h, _ => by cases h
  | .str, [], _, _, _, h, _ => by cases h
  | .sl _, [], _, _, _, h, _ => by cases h

theorem cells_rel {C : Cx} {s : SV} {l : List SV} {v : Value} (h : s.cells = some l) (hs : s.rel C v) : SV.rels C l v.cells.toList := by
  have one : ∀ (s : SV) (v : Value), s.rel C v → v.cells = #[v] → SV.rels C [s] v.cells.toList := fun s v h e => ⟨v, [], by rw [e], h, rfl⟩
  cases s <;> simp only [SV.cells] at h <;> try (cases h; done)
  case dat k x =>
    cases h
    obtain ⟨cs, h1, h2⟩ := hs
    split at h2
    · subst h2; exact leaves_rel h1
    · have := h1.one v (by rw [h2]; simp)
      have e : v.cells = #[v] := by cases v <;> first | rfl | cases this
      rw [e, ← h2]
      exact leaves_rel h1
  case agg l' =>
    split at h
    · cases h
      obtain ⟨vs, rfl, h2⟩ := hs
      exact h2
    · cases h
  case cst c =>
    have hs : v = c := hs
    subst hs
    split at h
    · rename_i h1
      cases h
      exact one _ _ rfl (by cases v <;> first | rfl | cases h1)
    · cases h
  case own n =>
    cases h
    obtain ⟨h1, h2, A, m, c, rfl⟩ := hs
    exact one _ _ ⟨h1, h2, A, m, c, rfl⟩ rfl
  case sub n k off len =>
    cases h
    have hs' := hs
    obtain ⟨_, A, m, cap, A', cc, _, rfl, _⟩ := hs
    exact one _ _ hs' rfl
  case ptr n o =>
    cases h
    have hs' := hs
    obtain ⟨_, b, _, rfl⟩ := hs
    exact one _ _ hs' rfl
  case rptr n =>
    cases h
    have hs' := hs
    obtain ⟨_, g, m, cap, _, rfl, _⟩ := hs
    exact one _ _ hs' rfl
  case adr k x =>
    cases h
    have hs' := hs
    obtain ⟨ad, cs, rfl, _⟩ := hs
    exact one _ _ hs' rfl
  case oel n k i off =>
    cases h
    have hs' := hs
    obtain ⟨_, g, m, cap, _, _, rfl⟩ := hs
    exact one _ _ hs' rfl
  case fn f cap =>
    cases h
    have hs' := hs
    obtain ⟨vs, rfl, _⟩ := hs
    exact one _ _ hs' rfl
  case ifc t s =>
    cases h
    have hs' := hs
    obtain ⟨u, rfl, _⟩ := hs
    exact one _ _ hs' rfl
  case yld =>
    cases h
    have hs' := hs
    have e : v = _ := hs
    exact one _ _ hs' (by rw [e]; rfl)
  case aar k xs =>
    cases h
    have hs' := hs
    obtain ⟨ad, rfl, _⟩ := hs
    exact one _ _ hs' rfl

theorem one_rel {C : Cx} {s : SV} {v : Value} (h : s.one = true) (hs : s.rel C v) : v.oneCell' = true := by
  cases s <;> simp only [SV.one, Bool.false_eq_true] at h
  case dat k x =>
    obtain ⟨cs, h1, h2⟩ := hs
    rw [if_neg (by simpa using h)] at h2
    exact h1.one v (by rw [h2]; simp)
  case cst c => rw [show v = c from hs]; exact h
  case own n => obtain ⟨_, _, A, m, c, rfl⟩ := hs; rfl
  case sub n k off len => obtain ⟨_, A, m, cap, A', cc, _, rfl, _⟩ := hs; rfl
  case ptr n o => obtain ⟨_, b, _, rfl⟩ := hs; rfl
  case rptr n => obtain ⟨_, g, m, cap, _, rfl, _⟩ := hs; rfl
  case adr k x => obtain ⟨ad, cs, rfl, _⟩ := hs; rfl
  case oel n k i off => obtain ⟨_, g, m, cap, _, _, rfl⟩ := hs; rfl
  case fn f cap => obtain ⟨vs, rfl, _⟩ := hs; rfl
  case ifc t s => obtain ⟨u, rfl, _⟩ := hs; rfl
  case yld => rw [show v = _ from hs]; rfl
  case aar k xs => obtain ⟨ad, rfl, _⟩ := hs; rfl

theorem ones_rel {C : Cx} : ∀ {l : List SV} {vs : List Value}, l.all SV.one = true → SV.rels C l vs → ∀ u ∈ vs, u.oneCell' = true
  | [], _, _, h, u, hu => by have h : _ = _ := h; subst h; cases hu
  | s :: l, _, ha, h, u, hu => by
    obtain ⟨v, r, rfl, h1, h2⟩ := h
    simp only [List.all_cons, Bool.and_eq_true] at ha
    rcases List.mem_cons.1 hu with rfl | hu
    · exact one_rel ha.1 h1
    · exact ones_rel ha.2 h2 u hu

theorem cells_one {C : Cx} {s : SV} {l : List SV} {v : Value} (h : s.cells = some l) (hs : s.rel C v) : ∀ u ∈ v.cells.toList, u.oneCell' = true := by
  by_cases ho : s.one = true
  · have := one_rel ho hs
    intro u hu
    have e : v.cells = #[v] := by cases v <;> first | rfl | cases this
    rw [e] at hu
    simp at hu
    subst hu; exact this
  · cases s <;> simp only [SV.cells, SV.one, Bool.not_eq_true', Bool.not_eq_false, not_true_eq_false, Bool.false_eq_true] at h ho <;> try (cases h; done)
    case dat k x =>
      obtain ⟨cs, h1, h2⟩ := hs
      rw [if_pos ho] at h2
      subst h2
      exact h1.one
    case agg l' =>
      split at h
      · rename_i h3
        obtain ⟨vs, rfl, h2⟩ := hs
        exact ones_rel h3 h2
      · cases h
    case cst c =>
      rw [if_neg ho] at h; cases h
end Go.Vc
