/- A row that is written no more is data from then on. -/
import Derived.Test.YtkdffofjnjamlaaDoorZVcOp1b
set_option linter.unusedVariables false
set_option linter.unusedSimpArgs false
namespace Go.Vc
open Go.RowKit

mutual
def SV.frz (n : Nat) (k : Kd) (xs : List k.T) : SV → SV
  | .own m => if m = n then .dat (.sl k) xs else .own m
  | .sub m k' off len => if m = n then (if k' = k then .dat (.sl k) ((xs.drop off).take len) else .junk) else .sub m k' off len
  | .rptr m => if m = n then .junk else .rptr m
  | .oel m k' i o => if m = n then .junk else .oel m k' i o
  | .fn f cap => .fn f (SV.frzs n k xs cap)
  | .tup l => .tup (SV.frzs n k xs l)
  | .agg l => .agg (SV.frzs n k xs l)
  | .ifc t s => .ifc t (SV.frz n k xs s)
  | .gd p s => .gd p (SV.frz n k xs s)
  | .dat k x => .dat k x
  | .cst c => .cst c
  | .ptr m o => .ptr m o
  | .adr k x => .adr k x
  | .yld => .yld
  | .aar k x => .aar k x
  | .junk => .junk
def SV.frzs (n : Nat) (k : Kd) (xs : List k.T) : List SV → List SV
  | [] => []
  | s :: l => SV.frz n k xs s :: SV.frzs n k xs l
end

def frzSlots (n : Nat) (k : Kd) (xs : List k.T) (sl : Slots) : Slots := sl.map fun p => (p.1, p.2.frz n k xs)

def Ob.frz (n : Nat) (k : Kd) (xs : List k.T) : Ob → Ob
  | .row e k' ys => .row e k' ys
  | .var t cs => .var t (SV.frzs n k xs cs)
  | .siter l pos => .siter l pos
  | .dfr => .dfr

def DE.frz (n : Nat) (k : Kd) (xs : List k.T) : DE → DE
  | .mark m => .mark m
  | .fn f cap => .fn f (SV.frzs n k xs cap)
def dfFrz (n : Nat) (k : Kd) (xs : List k.T) (l : List DE) : List DE := l.map (DE.frz n k xs)

def St.frz (st : St) (n : Nat) : St :=
  match st.row n with
  | some ⟨k, xs⟩ => { st with sl := frzSlots n k xs st.sl, stk := st.stk.map (fun p => (frzSlots n k xs p.1, dfFrz n k xs p.2)), df := dfFrz n k xs st.df, hp := (st.hp.set n none).map (Option.map (Ob.frz n k xs)) }
  | none => st

/-- What a row's handles are, once it is written no more. -/
structure Thaw (C C' : Cx) (n : Nat) (k : Kd) (xs : List k.T) : Prop where
  le : C.le C'
  row : ∃ (A : Option Addr) (c : Nat), C.ρ n = .slice A xs.length c ∧ xs.length ≤ c ∧ c ≤ 9223372036854775807 ∧ (A = none → c = 0 ∧ xs = []) ∧
    ∀ ad, A = some ad → ad.block < C'.w.heap.size ∧ ¬ C'.F ad.block ∧ Els C'.w (Rep C'.w C'.F k) k.sz ad xs

mutual
theorem SV.rel.frz {C C' : Cx} {n : Nat} {k : Kd} {xs : List k.T} (T : Thaw C C' n k xs) : ∀ {s : SV} {v : Value}, s.rel C v → (s.frz n k xs).rel C' v
  | .own m, v, h => by
    simp only [SV.frz]
    split
    · rename_i e
      subst e
      obtain ⟨A, c, h1, h2, h3, h4, h5⟩ := T.row
      refine VRep_sl.2 ⟨A, c, h.2.1.trans h1, h2, h3, fun hne => ?_⟩
      cases A with
      | none => exact absurd (h4 rfl).2 hne
      | some ad => obtain ⟨h6, h7, h8⟩ := h5 ad rfl; exact ⟨ad, rfl, h6, h7, h8⟩
    · exact SV.rel.le (s := .own m) T.le h
  | .sub m k' off len, v, h => by
    simp only [SV.frz]
    split
    · rename_i e
      subst e
      split
      · rename_i e
        subst e
        obtain ⟨A, c, h1, h2, h3, h4, h5⟩ := T.row
        obtain ⟨_, A0, m', cap, A', c', e1, rfl, h6, h7, h8, h9⟩ := h
        rw [h1] at e1
        simp only [Value.slice.injEq] at e1
        obtain ⟨rfl, rfl, rfl⟩ := e1
        have hlen : ((xs.drop off).take len).length = len := by simp; omega
        refine VRep_sl.2 ⟨A', c', by rw [hlen], by omega, by omega, fun hne => ?_⟩
        have hpos : 0 < ((xs.drop off).take len).length := List.length_pos_iff.2 hne
        cases A with
        | none => have := (h4 rfl).2; subst this; simp at h6; omega
        | some ad =>
          obtain ⟨h10, h11, h12⟩ := h5 ad rfl
          rcases h9 with rfl | h9
          · exact ⟨_, rfl, by rw [add_block]; exact h10, by rw [add_block]; exact h11, els_cut h12 _ _⟩
          · omega
      · trivial
    · exact SV.rel.le (s := .sub m k' off len) T.le h
  | .rptr m, v, h => by
    simp only [SV.frz]
    split
    · trivial
    · exact SV.rel.le (s := .rptr m) T.le h
  | .oel m k' i o, v, h => by
    simp only [SV.frz]
    split
    · trivial
    · exact SV.rel.le (s := .oel m k' i o) T.le h
  | .fn f cap, v, h => by obtain ⟨vs, e, h⟩ := h; exact ⟨vs, e, SV.rels.frz T h⟩
  | .tup l, v, h => by obtain ⟨vs, e, h⟩ := h; exact ⟨vs, e, SV.rels.frz T h⟩
  | .agg l, v, h => by obtain ⟨vs, e, h⟩ := h; exact ⟨vs, e, SV.rels.frz T h⟩
  | .ifc t s, v, h => by obtain ⟨u, e, h⟩ := h; exact ⟨u, e, SV.rel.frz T h⟩
  | .gd p s, v, h => ⟨fun hp => SV.rel.frz T (h.1 hp), h.2⟩
  | .dat k x, v, h => SV.rel.le (s := .dat k x) T.le h
  | .cst c, v, h => h
  | .ptr m o, v, h => SV.rel.le (s := .ptr m o) T.le h
  | .adr k x, v, h => SV.rel.le (s := .adr k x) T.le h
  | .yld, v, h => SV.rel.le (s := .yld) T.le h
  | .aar k x, v, h => SV.rel.le (s := .aar k x) T.le h
  | .junk, _, _ => trivial
theorem SV.rels.frz {C C' : Cx} {n : Nat} {k : Kd} {xs : List k.T} (T : Thaw C C' n k xs) : ∀ {l : List SV} {vs : List Value}, SV.rels C l vs → SV.rels C' (SV.frzs n k xs l) vs
  | [], _, h => h
  | s :: l, vs, h => by
    obtain ⟨v, r, e, h1, h2⟩ := h
    exact ⟨v, r, e, SV.rel.frz T h1, SV.rels.frz T h2⟩
end

theorem DRel.frz {C C' : Cx} {n : Nat} {k : Kd} {xs : List k.T} (T : Thaw C C' n k xs) : ∀ {l : List DE} {ds : List Deferred}, DRel C l ds → DRel C' (dfFrz n k xs l) ds
  | [], _, h => h
  | .mark m :: l, ds, h => by
    obtain ⟨b, r, e, h1, h2, h3⟩ := h
    exact ⟨b, r, e, Nat.lt_of_lt_of_le h1 T.le.N, by rw [T.le.ρ m h1]; exact h2, DRel.frz T h3⟩
  | .fn f cap :: l, ds, h => by
    obtain ⟨vs, r, e, h1, h2⟩ := h
    exact ⟨vs, r, e, SV.rels.frz T h1, DRel.frz T h2⟩

theorem lookup_frz {n : Nat} {k : Kd} {xs : List k.T} {i : Nat} : ∀ {sl : Slots}, (frzSlots n k xs sl).lookup i = (sl.lookup i).map (SV.frz n k xs)
  | [] => rfl
  | (j, s) :: sl => by
    show List.lookup i ((j, s.frz n k xs) :: frzSlots n k xs sl) = _
    rw [lookup_cons, lookup_cons]
    split
    · rfl
    · exact lookup_frz

theorem StRel.frz {B : Base} {ρ : Nat → Value} {st : St} {a : Act} {fs : List Act} {w : World} (h : StRel B ρ st a fs w) (n : Nat) : StRel B ρ (st.frz n) a fs w := by
  unfold St.frz
  split
  · rename_i k xs hrow
    obtain ⟨e, he⟩ := St.row_some hrow
    obtain ⟨A, c, h1, h2, h3, h4, h5⟩ := row_rel (h.h.obj n _ he)
    have live' : ∀ m, live ((st.hp.set n none).map (Option.map (Ob.frz n k xs))) m → live st.hp m ∧ m ≠ n := by
      rintro m ⟨o, ho⟩
      rw [List.getElem?_map] at ho
      obtain ⟨o1, ho1, ho2⟩ := Option.map_eq_some_iff.1 ho
      by_cases hm : m = n
      · subst hm
        rw [List.getElem?_set] at ho1
        split at ho1
        · split at ho1
          · cases ho1; cases ho2
          · cases ho1
        · rename_i hc; exact absurd rfl hc
      · rw [List.getElem?_set_ne (Ne.symm hm)] at ho1
        obtain ⟨o2, rfl, _⟩ := Option.map_eq_some_iff.1 ho2
        exact ⟨⟨o2, ho1⟩, hm⟩
    have hle : (cx B ρ st.hp w).le (cx B ρ ((st.hp.set n none).map (Option.map (Ob.frz n k xs))) w) := ⟨Nat.le_refl _, fun _ _ _ => rfl, fun b _ hF => by
        rcases hF with hF | ⟨m, hm, hb⟩
        · exact .inl hF
        · exact .inr ⟨m, (live' m hm).1, hb⟩, by simp, fun _ _ => rfl, rfl⟩
    have T : Thaw (cx B ρ st.hp w) (cx B ρ ((st.hp.set n none).map (Option.map (Ob.frz n k xs))) w) n k xs := ⟨hle, A, c, h1, h2, h3, h4, fun ad hA => by
      obtain ⟨_, _, h6, h7, _⟩ := h5 ad hA
      have hbn : blk (ρ n) = some ad.block := by rw [h1, hA]; rfl
      refine ⟨h6, fun hF => ?_, h7.imp (fun x _ cs hr => hr.step hle.size hle.same hle.F) fun j u hu => hu⟩
      rcases hF with hF | ⟨m, hm, hb⟩
      · exact (h.h.own n _ ⟨_, he⟩ hbn).2 hF
      · obtain ⟨hm1, hm2⟩ := live' m hm
        exact hm2 (h.h.sep m n _ hm1 ⟨_, he⟩ hb hbn)⟩
    refine ⟨⟨h.h.kept, fun m o ho => ?_, fun a b c ha hb => h.h.sep a b c (live' a ha).1 (live' b hb).1, fun m b hm => h.h.own m b (live' m hm).1, h.h.fb⟩, ⟨h.s.1, fun i s hs => ?_⟩, h.kn, ?_, h.d.frz T, h.g⟩
    · have hl := live' m ⟨o, ho⟩
      rw [List.getElem?_map] at ho
      obtain ⟨o1, ho1, ho2⟩ := Option.map_eq_some_iff.1 ho
      rw [List.getElem?_set_ne (Ne.symm hl.2)] at ho1
      obtain ⟨o2, rfl, rfl⟩ := Option.map_eq_some_iff.1 ho2
      have hr := h.h.obj m o2 ho1
      cases o2 with
      | row e' k' ys => exact hr.le hle (fun _ _ => rfl)
      | var t cs =>
        obtain ⟨b, vs, e1, h6, h7⟩ := hr
        exact ⟨b, vs, e1, h6, SV.rels.frz T h7⟩
      | siter l pos => exact hr.le hle (fun _ _ => rfl)
      | dfr => exact hr.le hle (fun _ _ => rfl)
    · rw [lookup_frz] at hs
      obtain ⟨s0, hs0, rfl⟩ := Option.map_eq_some_iff.1 hs
      exact ⟨(h.s.2 i s0 hs0).1, SV.rel.frz T (h.s.2 i s0 hs0).2⟩
    · have : ∀ {l : List (Slots × List DE)} {fs : List Act}, StkRel (cx B ρ st.hp w) l fs → StkRel (cx B ρ ((st.hp.set n none).map (Option.map (Ob.frz n k xs))) w) (l.map (fun p => (frzSlots n k xs p.1, dfFrz n k xs p.2))) fs := by
        intro l
        induction l with
        | nil => intro fs h; exact h
        | cons sl l ih =>
          rintro fs ⟨t, r, e, h6, h8, h7⟩
          refine ⟨t, r, e, ⟨h6.1, fun i s hs => ?_⟩, h8.frz T, ih h7⟩
          rw [lookup_frz] at hs
          obtain ⟨s0, hs0, rfl⟩ := Option.map_eq_some_iff.1 hs
          exact ⟨(h6.2 i s0 hs0).1, SV.rel.frz T (h6.2 i s0 hs0).2⟩
      exact this h.k
  · exact h

/-- The same, for values that stand beside the state. -/
theorem StRel.thaw {B : Base} {ρ : Nat → Value} {st : St} {a : Act} {fs : List Act} {w : World} (h : StRel B ρ st a fs w) {n : Nat} {k : Kd} {xs : List k.T} (hrow : st.row n = some ⟨k, xs⟩) :
    Thaw (cx B ρ st.hp w) (cx B ρ ((st.hp.set n none).map (Option.map (Ob.frz n k xs))) w) n k xs := by
  obtain ⟨e, he⟩ := St.row_some hrow
  obtain ⟨A, c, h1, h2, h3, h4, h5⟩ := row_rel (h.h.obj n _ he)
  have live' : ∀ m, live ((st.hp.set n none).map (Option.map (Ob.frz n k xs))) m → live st.hp m ∧ m ≠ n := by
    rintro m ⟨o, ho⟩
    rw [List.getElem?_map] at ho
    obtain ⟨o1, ho1, ho2⟩ := Option.map_eq_some_iff.1 ho
    by_cases hm : m = n
    · subst hm
      rw [List.getElem?_set] at ho1
      split at ho1
      · split at ho1
        · cases ho1; cases ho2
        · cases ho1
      · rename_i hc; exact absurd rfl hc
    · rw [List.getElem?_set_ne (Ne.symm hm)] at ho1
      obtain ⟨o2, rfl, _⟩ := Option.map_eq_some_iff.1 ho2
      exact ⟨⟨o2, ho1⟩, hm⟩
  have hle : (cx B ρ st.hp w).le (cx B ρ ((st.hp.set n none).map (Option.map (Ob.frz n k xs))) w) := ⟨Nat.le_refl _, fun _ _ _ => rfl, fun b _ hF => by
      rcases hF with hF | ⟨m, hm, hb⟩
      · exact .inl hF
      · exact .inr ⟨m, (live' m hm).1, hb⟩, by simp, fun _ _ => rfl, rfl⟩
  exact ⟨hle, A, c, h1, h2, h3, h4, fun ad hA => by
    obtain ⟨_, _, h6, h7, _⟩ := h5 ad hA
    have hbn : blk (ρ n) = some ad.block := by rw [h1, hA]; rfl
    refine ⟨h6, fun hF => ?_, h7.imp (fun x _ cs hr => hr.step hle.size hle.same hle.F) fun j u hu => hu⟩
    rcases hF with hF | ⟨m, hm, hb⟩
    · exact (h.h.own n _ ⟨_, he⟩ hbn).2 hF
    · obtain ⟨hm1, hm2⟩ := live' m hm
      exact hm2 (h.h.sep m n _ hm1 ⟨_, he⟩ hb hbn)⟩
end Go.Vc
