/- Operations that make memory or write it. -/
import Derived.Test.YtkdffofjnjamlaaDoorZVcFrz
import Derived.Laws.OwnMore
import Derived.Laws.NewFold
import Derived.Laws.IdiomStrings
set_option linter.unusedVariables false
set_option linter.unusedSimpArgs false
namespace Go.Vc
open Go.RowKit

/-- What an operation that hands back a value leaves. -/
def Yield (E : Ty) (B : Base) (o : Oper) (a : Act) (fs : List Act) (w : World) (kv : SV → St → Prop) : Prop :=
  ∃ n w' s st' ρ' v, (execOp a.eval o).run E.P w = .ok n w' ∧ (n = .value v ∨ (n = .skip ∧ v = undef)) ∧ kv s st' ∧ StRel B ρ' st' a fs w' ∧ s.rel (cx B ρ' st'.hp w') v

def asList (k : Kd) : List SV → Option (List k.T)
  | [] => some []
  | s :: l => match s.as k, asList k l with
    | some x, some xs => some (x :: xs)
    | _, _ => none

/-- A new variable: a row where it is an array of plain elements. -/
def newOb (E : Ty) (t : Nat) (l : List SV) : Ob :=
  match E.d t with
  | .arr m e => match E.k e with
    | some k => if k.isAgg = false ∧ l.length = m then
        match asList k l with
        | some xs => .row t k xs
        | none => .var t l
      else .var t l
    | none => .var t l
  | _ => .var t l

def obSV (n : Nat) : Ob → SV
  | .row _ _ _ => .rptr n
  | _ => .ptr n 0

section
variable {E : Ty} {B : Base} {ρ : Nat → Value} {st : St} {a : Act} {fs : List Act} {w : World} {kv : SV → St → Prop} {C : Cx}

theorem asList_rel {k : Kd} (hk : k.isAgg = false) : ∀ {l : List SV} {xs : List k.T} {vs : List Value}, asList k l = some xs → SV.rels C l vs →
    xs.length = l.length ∧ ∀ (i : Nat) (x : k.T), xs[i]? = some x → ∃ v, vs[i]? = some v ∧ Rep C.w C.F k x [v]
  | [], xs, vs, h, hr => by cases h; exact ⟨rfl, fun i x hx => by cases hx⟩
  | s :: l, xs, vs, h, hr => by
    simp only [asList] at h
    split at h
    · rename_i y ys e1 e2
      cases h
      obtain ⟨v, r, rfl, h1, h2⟩ := hr
      obtain ⟨h3, h4⟩ := asList_rel hk e2 h2
      refine ⟨by simp [h3], fun i x hx => ?_⟩
      cases i with
      | zero => cases hx; exact ⟨v, rfl, (VRep_one hk).1 (as_rel e1 h1)⟩
      | succ i => exact h4 i x hx
    · cases h

/-- A block with the cells of a new variable. -/
theorem new_sound (h : StRel B ρ st a fs w) (t : Nat) {l : List SV} {cells : Array Value} (hl : SV.rels (cx B ρ st.hp w) l cells.toList) (hlen : l.length ≤ 9223372036854775807) :
    ∃ ρ', StRel B ρ' { st with hp := st.hp ++ [some (newOb E t l)] } a fs (w.alloc (.cells cells t)) ∧
      (obSV st.hp.length (newOb E t l)).rel (cx B ρ' (st.hp ++ [some (newOb E t l)]) (w.alloc (.cells cells t))) (.pointer (some ⟨w.heap.size, 0, none⟩)) := by
  have hh : (w.alloc (.cells cells t)).heap[w.heap.size]? = some (.cells cells t (0, 0)) := heap_alloc_new w _
  have hcs : cells.size = l.length := by have := rels_length hl; simpa using this
  have var_ : ∃ ρ', StRel B ρ' { st with hp := st.hp ++ [some (.var t l)] } a fs (w.alloc (.cells cells t)) ∧
      (SV.ptr st.hp.length 0).rel (cx B ρ' (st.hp ++ [some (.var t l)]) (w.alloc (.cells cells t))) (.pointer (some ⟨w.heap.size, 0, none⟩)) := by
    have T : Turn B ρ (upd ρ st.hp.length (.pointer (some ⟨w.heap.size, 0, none⟩))) st.hp (st.hp ++ [some (.var t l)]) w (w.alloc (.cells cells t)) st.hp.length none :=
      Turn.new (World.grownBy_alloc w _ none) (fun b hb => by cases hb; exact Nat.le_refl _)
    refine ⟨_, h.turn T (fun o ho => ?_), by simp, w.heap.size, upd_same _ _ _, rfl⟩
    rw [getElem?_snoc] at ho
    cases ho
    rw [upd_same]
    exact ⟨w.heap.size, cells.toList, rfl, by simpa using hh, SV.rels.le T.le hl⟩
  unfold newOb
  split
  · rename_i m e _
    split
    · rename_i k _
      split
      · rename_i hk
        obtain ⟨hk, hm⟩ := hk
        split
        · rename_i xs hx
          have h1 := sz_one hk
          have T : Turn B ρ (upd ρ st.hp.length (.slice (some ⟨w.heap.size, 0, none⟩) l.length l.length)) st.hp (st.hp ++ [some (.row t k xs)]) w (w.alloc (.cells cells t)) st.hp.length none :=
            Turn.new (World.grownBy_alloc w _ none) (fun b hb => by cases hb; exact Nat.le_refl _)
          obtain ⟨h2, h3⟩ := asList_rel hk hx (SV.rels.le T.le hl)
          refine ⟨_, h.turn T (fun o ho => ?_), by simp, w.heap.size, l.length, l.length, upd_same _ _ _, rfl, rfl⟩
          rw [getElem?_snoc] at ho
          cases ho
          rw [upd_same]
          refine ⟨cells.toList, ?_, fun i x hi => ?_⟩
          · rw [h2, h1]
            exact .inl <| World.ownsRow_lit w cells l.length (Nat.zero_le _) (by simpa [maxLen] using hlen) (by rw [hcs]; omega)
          · obtain ⟨v, h4, h5⟩ := h3 i x hi
            rw [h1, Nat.mul_one]
            have : (cells.toList.drop i).take 1 = [v] := by
              have hi' : i < cells.toList.length := (List.getElem?_eq_some_iff.1 h4).1
              rw [List.drop_eq_getElem_cons hi']
              simp [(List.getElem?_eq_some_iff.1 h4).2]
            rw [this]; exact h5
        · exact var_
      · exact var_
    · exact var_
  · exact var_

def St.box (E : Ty) (st : St) (t : Nat) (s : SV) (kv : SV → St → Prop) : Prop :=
  match s.cells with
  | some l => l.length ≤ 65536 ∧ kv (obSV st.hp.length (newOb E t l)) { st with hp := st.hp ++ [some (newOb E t l)] }
  | none => False

theorem box_sound (h : StRel B ρ st a fs w) {t : Nat} {x : Operand} {o : Oper} (e : o.op = .box t x) (hk : st.box E t (st.ev x) kv) : Yield E B o a fs w kv := by
  unfold St.box at hk
  split at hk
  · rename_i l hl
    have hr := cells_rel hl (ev_rel h x)
    obtain ⟨ρ', h1, h2⟩ := new_sound (E := E) h t hr (by omega)
    refine ⟨_, _, _, _, ρ', _, ?_, .inl rfl, hk.2, h1, h2⟩
    unfold execOp
    rw [e]
    simp only [Instr.box, newVar, newRow, Sem.run_bind, run_newObj_alloc, Result.andThen_ok, Sem.run_pure]
  · exact hk.elim

def St.alloc (E : Ty) (st : St) (t : Nat) (kv : SV → St → Prop) : Prop :=
  match E.z t with
  | some z => z.length ≤ 65536 ∧ kv (obSV st.hp.length (newOb E t (z.map cSV))) { st with hp := st.hp ++ [some (newOb E t (z.map cSV))] }
  | none => False

theorem cSVs_rel (C : Cx) : ∀ z : List Value, SV.rels C (z.map cSV) z
  | [] => rfl
  | v :: z => ⟨v, z, rfl, cSV_rel C v, cSVs_rel C z⟩

theorem alloc_sound (hE : E.Ok) (h : StRel B ρ st a fs w) {t : Nat} {o : Oper} (e : o.op = .alloc t) (hk : st.alloc E t kv) : Yield E B o a fs w kv := by
  unfold St.alloc at hk
  split at hk
  · rename_i z hz
    obtain ⟨inf, zv, h3, h4, h5, _⟩ := hE.z hz
    obtain ⟨ρ', h1, h2⟩ := new_sound (E := E) h t (cells := zv.cells) (by rw [h5]; exact cSVs_rel _ z) (by simp; omega)
    refine ⟨_, _, _, _, ρ', _, ?_, .inl rfl, hk.2, h1, h2⟩
    unfold execOp
    rw [e]
    simp [Instr.alloc, zeroValue, typeInfo, h3, h4, newVar, newRow]
  · exact hk.elim
end

/-! ### Parts -/
def fillSV (place : Nat → Option (Nat × Nat)) (l : List SV) : List (Nat × SV) → Option (List SV)
  | [] => some l
  | (i, s) :: rest => match place i, s.cells with
    | some (off, size), some c => if c.length = size ∧ off + size ≤ l.length then fillSV place (l.take off ++ c ++ l.drop (off + size)) rest else none
    | _, _ => none

theorem set_fold (off : Nat) : ∀ (vs : List Value) (k : Nat) (cs : List Value), off + k + vs.length ≤ cs.length →
    (vs.zipIdx k).foldl (fun (cs : List Value) (p : Value × Nat) => cs.set (off + p.2) p.1) cs = cs.take (off + k) ++ vs ++ cs.drop (off + k + vs.length)
  | [], k, cs, h => by simp
  | v :: vs, k, cs, h => by
    simp only [List.zipIdx_cons, List.foldl_cons]
    rw [set_fold off vs (k + 1) _ (by simp only [List.length_set, List.length_cons] at *; omega)]
    have h0 : off + k < cs.length := by simp only [List.length_cons] at h; omega
    have e1 : (cs.set (off + k) v).take (off + (k + 1)) = cs.take (off + k) ++ [v] := by
      rw [← Nat.add_assoc, List.take_succ_eq_append_getElem (by simpa using h0)]
      simp [List.take_set_of_le]
    have e2 : (cs.set (off + k) v).drop (off + (k + 1) + vs.length) = cs.drop (off + k + (v :: vs).length) := by
      rw [List.drop_set_of_lt (by omega)]
      congr 1
      simp only [List.length_cons]; omega
    rw [e1, e2]
    simp

theorem fold_toList (off : Nat) (vs : Array Value) (cs : Array Value) (h : off + vs.size ≤ cs.size) :
    (vs.zipIdx.foldl (fun (cs : Array Value) (p : Value × Nat) => cs.setIfInBounds (off + p.2) p.1) cs).toList = cs.toList.take off ++ vs.toList ++ cs.toList.drop (off + vs.size) := by
  have key : ∀ (l : List (Value × Nat)) (cs : Array Value), (l.foldl (fun (cs : Array Value) (p : Value × Nat) => cs.setIfInBounds (off + p.2) p.1) cs).toList = l.foldl (fun (cs : List Value) (p : Value × Nat) => cs.set (off + p.2) p.1) cs.toList := by
    intro l
    induction l with
    | nil => intro cs; rfl
    | cons p l ih => intro cs; simp only [List.foldl_cons]; rw [ih]; simp
  rw [← Array.foldl_toList, key, Array.toList_zipIdx]
  have := set_fold off vs.toList 0 cs.toList (by simpa using h)
  simpa using this

inductive PartsRel (C : Cx) : List (Nat × SV) → List (Nat × Value) → Prop
  | nil : PartsRel C [] []
  | cons {i : Nat} {s : SV} {v : Value} {l : List (Nat × SV)} {r : List (Nat × Value)} (h : s.rel C v) (t : PartsRel C l r) : PartsRel C ((i, s) :: l) ((i, v) :: r)

theorem fill_rel {C : Cx} {place : Nat → Option (Nat × Nat)} : ∀ {parts : List (Nat × SV)} {ps : List (Nat × Value)} {l l' : List SV} {cells : Array Value}, PartsRel C parts ps → fillSV place l parts = some l' → SV.rels C l cells.toList →
    ∃ cells', Instr.fill place cells ps = some cells' ∧ SV.rels C l' cells'.toList
  | [], _, l, l', cells, hp, h, hr => by cases hp; cases h; exact ⟨cells, rfl, hr⟩
  | (i, s) :: rest, _, l, l', cells, hp, h, hr => by
    cases hp with
    | cons hs ht =>
      rename_i v r
      simp only [fillSV] at h
      split at h
      · rename_i off size c e1 e2
        split at h
        · rename_i hc
          have hcr := cells_rel e2 hs
          have hlen := rels_length hcr
          have hlen2 := rels_length hr
          simp only [Array.length_toList] at hlen hlen2
          have h1 : ¬ (v.cells.size ≠ size || off + v.cells.size > cells.size) = true := by
            simp only [Bool.or_eq_true, decide_eq_true_eq, not_or]
            omega
          refine (fill_rel (cells := v.cells.zipIdx.foldl (fun cs (c, j) => cs.setIfInBounds (off + j) c) cells) ht h ?_).imp fun cells' hh => ⟨?_, hh.2⟩
          · have := fold_toList off v.cells cells (by omega)
            rw [show (v.cells.zipIdx.foldl (fun cs (c, j) => cs.setIfInBounds (off + j) c) cells).toList = _ from this]
            refine rels_append (rels_append (rels_take off hr) hcr) ?_
            rw [hlen, hc.1]
            exact rels_drop _ hr
          · simp only [Instr.fill, e1]
            rw [if_neg h1]
            exact hh.1
        · cases h
      · cases h

def ownName : SV → Option Nat
  | .own n => some n
  | .sub n _ _ _ => some n
  | _ => none

/-- Rows that are handed into a value are written no more. -/
def St.frzOps (st : St) : List Operand → St
  | [] => st
  | x :: l => match ownName (st.ev x) with
    | some n => (st.frz n).frzOps l
    | none => st.frzOps l

theorem frzOps_rel {B : Base} {ρ : Nat → Value} {a : Act} {fs : List Act} {w : World} : ∀ (l : List Operand) {st : St}, StRel B ρ st a fs w → StRel B ρ (st.frzOps l) a fs w
  | [], _, h => h
  | x :: l, st, h => by
    simp only [St.frzOps]
    split
    · exact frzOps_rel l (h.frz _)
    · exact frzOps_rel l h

def placesOf (E : Ty) : List (Nat × Nat) → Option (List (Nat × Nat))
  | [] => some []
  | (ft, off) :: l => match E.sz ft, placesOf E l with
    | some z, some r => some ((off, z) :: r)
    | _, _ => none

def St.build (E : Ty) (st0 : St) (t : Nat) (parts : List (Nat × Operand)) (kv : SV → St → Prop) : Prop :=
  let st := st0.frzOps (parts.map (·.2))
  match E.d t, E.z t with
  | .st fs, some z => match placesOf E fs with
    | some pl => match fillSV (fun i => pl[i]?) (z.map cSV) (parts.map fun p => (p.1, st.ev p.2)) with
      | some l => match ofCells E t l with
        | some s => kv s st
        | none => False
      | none => False
    | none => False
  | .arr _ e, some z => match E.sz e with
    | some n => match fillSV (fun i => some (i * n, n)) (z.map cSV) (parts.map fun p => (p.1, st.ev p.2)) with
      | some l => match ofCells E t l with
        | some s => kv s st
        | none => False
      | none => False
    | none => False
  | _, _ => False

section
variable {E : Ty} {B : Base} {ρ : Nat → Value} {st : St} {a : Act} {fs : List Act} {w : World} {kv : SV → St → Prop} {C : Cx}

theorem parts_rel (h : StRel B ρ st a fs w) : ∀ l : List (Nat × Operand), PartsRel (cx B ρ st.hp w) (l.map fun p => (p.1, st.ev p.2)) (l.map fun p => (p.1, a.eval p.2))
  | [] => .nil
  | (_, x) :: l => .cons (ev_rel h x) (parts_rel h l)

theorem places_of (hE : E.Ok) : ∀ {l : List Field} {pl : List (Nat × Nat)}, placesOf E (l.map fun f => (f.type, f.offset)) = some pl → l.mapM (fun f => (E.P.info? f.type).map fun i => (f.offset, i.size)) = some pl
  | [], pl, h => by cases h; rfl
  | f :: l, pl, h => by
    simp only [List.map_cons, placesOf] at h
    split at h
    · rename_i z r e1 e2
      cases h
      obtain ⟨inf, h1, h2, _⟩ := hE.sz e1
      simp [List.mapM_cons, h1, h2, places_of hE e2]
    · cases h

theorem build_sound (hE : E.Ok) (h : StRel B ρ st a fs w) {t : Nat} {parts : Array (Nat × Operand)} {o : Oper} (e : o.op = .build t parts) (hk : st.build E t parts.toList kv) : Yield E B o a fs w kv := by
  have h0 := frzOps_rel (parts.toList.map (·.2)) h
  unfold St.build at hk
  simp only at hk
  generalize st.frzOps (parts.toList.map (·.2)) = st1 at h0 hk
  have hd := hE.d t
  have fin : ∀ {cells : Array Value} {l : List SV} {s : SV}, E.P.built t (parts.map fun (i, x) => (i, a.eval x)).toList = some cells → SV.rels (cx B ρ st1.hp w) l cells.toList → ofCells E t l = some s → (E.d t).isAgg = true → kv s st1 → Yield E B o a fs w kv := by
    intro cells l s h1 h2 h3 h4 h5
    obtain ⟨_, _, _, h6⟩ := ofCells_rel hE h3 h2
    rw [h4] at h6
    simp only [if_true] at h6
    refine ⟨_, w, s, st1, ρ, .agg cells, ?_, .inl rfl, h5, h0, by simpa using h6⟩
    unfold execOp
    rw [e]
    simp only [Sem.run_bind, run_build w t _ cells h1, Result.andThen_ok, Sem.run_pure]
  split at hk
  · rename_i fs' z e1 e2
    rw [e1] at hd
    obtain ⟨hd, hfs⟩ := hd
    obtain ⟨inf, zv, h3, h4, h5, _⟩ := hE.z e2
    split at hk
    · rename_i pl e3
      split at hk
      · rename_i l e4
        split at hk
        · rename_i s e5
          rw [← hfs] at e3
          have hp := places_of hE e3
          obtain ⟨cells, h6, h7⟩ := fill_rel (cells := zv.cells) (parts_rel h0 parts.toList) e4 (by rw [h5]; exact cSVs_rel _ z)
          refine fin ?_ h7 e5 (by rw [e1]; rfl) hk
          unfold Program.built
          simp only [h3, hd, h4, hp]
          rw [Array.toList_map]
          have : (fun (x : Nat) => pl.toArray[x]?) = fun i => pl[i]? := by funext i; simp
          rw [this]; exact h6
        · exact hk.elim
      · exact hk.elim
    · exact hk.elim
  · rename_i m e' z e1 e2
    rw [e1] at hd
    have hd : E.P.underlying t = some (.array m e') := hd
    obtain ⟨inf, zv, h3, h4, h5, _⟩ := hE.z e2
    split at hk
    · rename_i n e3
      obtain ⟨ie, h8, h9, _⟩ := hE.sz e3
      split at hk
      · rename_i l e4
        split at hk
        · rename_i s e5
          obtain ⟨cells, h6, h7⟩ := fill_rel (cells := zv.cells) (parts_rel h0 parts.toList) e4 (by rw [h5]; exact cSVs_rel _ z)
          refine fin ?_ h7 e5 (by rw [e1]; rfl) hk
          unfold Program.built
          simp only [h3, hd, h4, h8, h9]
          rw [Array.toList_map]
          exact h6
        · exact hk.elim
      · exact hk.elim
    · exact hk.elim
  · exact hk.elim
end

/-! ### Rows -/
/-- Elements out of values. -/
def asElems (k : Kd) : List SV → Option (List k.T)
  | [] => some []
  | s :: l => match s.cells with
    | some c => match unleaf k c, asElems k l with
      | some (x, []), some xs => some (x :: xs)
      | _, _ => none
    | none => none

def St.buildSlice (E : Ty) (st0 : St) (t n : Nat) (parts : List (Nat × Operand)) (kv : SV → St → Prop) : Prop :=
  let st := st0.frzOps (parts.map (·.2))
  match E.d t with
  | .sl e => match E.k e with
    | some k => if parts.map (·.1) = List.range n ∧ n ≤ 65536 ∧ n * k.sz ≤ 65536 then
        match asElems k (parts.map fun p => st.ev p.2) with
        | some xs => kv (.own st.hp.length) { st with hp := st.hp ++ [some (.row e k xs)] }
        | none => False
      else False
    | none => False
  | _ => False

section
variable {E : Ty} {B : Base} {ρ : Nat → Value} {st : St} {a : Act} {fs : List Act} {w : World} {kv : SV → St → Prop} {C : Cx}

theorem asElems_rel {k : Kd} : ∀ {l : List SV} {xs : List k.T} {vs : List Value}, asElems k l = some xs → SV.rels C l vs →
    xs.length = l.length ∧ (∀ v ∈ vs, v.cells.size = k.sz) ∧ ∀ (i : Nat) (x : k.T), xs[i]? = some x → ∃ v, vs[i]? = some v ∧ Rep C.w C.F k x v.cells.toList
  | [], xs, vs, h, hr => by
    have hr : vs = [] := hr
    subst hr
    cases h; exact ⟨rfl, (fun v hv => by cases hv), fun i x hx => by cases hx⟩
  | s :: l, xs, vs, h, hr => by
    simp only [asElems] at h
    split at h
    · rename_i c e1
      split at h
      · rename_i y ys e2 e3
        cases h
        obtain ⟨v, r, rfl, h1, h2⟩ := hr
        obtain ⟨h3, h5, h4⟩ := asElems_rel e3 h2
        have h6 := unleaf_all e2 (cells_rel e1 h1)
        refine ⟨by simp [h3], fun u hu => ?_, fun i x hx => ?_⟩
        · rcases List.mem_cons.1 hu with rfl | hu
          · simpa using h6.length
          · exact h5 u hu
        · cases i with
          | zero => cases hx; exact ⟨v, rfl, h6⟩
          | succ i => exact h4 i x hx
      · cases h
    · cases h

theorem splice_eq (A V D F : List Value) (p m : Nat) (h : (A ++ V).length = p) : (A ++ V ++ D).take p ++ F ++ (A ++ V ++ D).drop (p + m) = A ++ (V ++ F) ++ D.drop m := by
  subst h
  rw [List.take_left, List.drop_append]
  simp

/-- Parts in a row, one behind the other. -/
theorem fill_row (z : Nat) : ∀ (vs : List Value) (k : Nat) (cells : Array Value), (∀ v ∈ vs, v.cells.size = z) → (k + vs.length) * z ≤ cells.size →
    ∃ cells', Instr.fill (fun i => some (i * z, z)) cells ((List.range' k vs.length).zip vs) = some cells' ∧ cells'.toList = cells.toList.take (k * z) ++ (vs.map fun v => v.cells.toList).flatten ++ cells.toList.drop ((k + vs.length) * z)
  | [], k, cells, _, _ => ⟨cells, rfl, by simp⟩
  | v :: vs, k, cells, hz, hl => by
    have hv := hz v (by simp)
    simp only [List.length_cons, List.range'_succ, List.zip_cons_cons, Instr.fill]
    have hm : (k + (vs.length + 1)) * z = k * z + z + vs.length * z := by rw [Nat.add_mul, Nat.add_mul, Nat.one_mul]; omega
    simp only [List.length_cons] at hl
    have hm2 : (k + 1 + vs.length) * z = k * z + z + vs.length * z := by rw [Nat.add_mul, Nat.add_mul, Nat.one_mul]
    have hm3 : (k + 1) * z = k * z + z := by rw [Nat.add_mul, Nat.one_mul]
    have h1 : ¬ (v.cells.size ≠ z || k * z + v.cells.size > cells.size) = true := by
      simp only [Bool.or_eq_true, decide_eq_true_eq, not_or]
      omega
    rw [if_neg h1]
    have ht := fold_toList (k * z) v.cells cells (by omega)
    have hsz : (v.cells.zipIdx.foldl (fun cs (c, j) => cs.setIfInBounds (k * z + j) c) cells).toList.length = cells.size := by
      rw [show (v.cells.zipIdx.foldl (fun cs (c, j) => cs.setIfInBounds (k * z + j) c) cells).toList = _ from ht]
      simp; omega
    obtain ⟨cells', h2, h3⟩ := fill_row z vs (k + 1) (v.cells.zipIdx.foldl (fun cs (c, j) => cs.setIfInBounds (k * z + j) c) cells) (fun u hu => hz u (by simp [hu])) (by
      rw [Array.length_toList] at hsz; omega)
    refine ⟨cells', h2, ?_⟩
    rw [h3, show (v.cells.zipIdx.foldl (fun cs (c, j) => cs.setIfInBounds (k * z + j) c) cells).toList = _ from ht, hv, hm, hm2, hm3]
    have hp : (cells.toList.take (k * z) ++ v.cells.toList).length = k * z + z := by
      have : k * z ≤ cells.size := by omega
      simp [hv, Nat.min_eq_left this]
    have := splice_eq (cells.toList.take (k * z)) v.cells.toList (cells.toList.drop (k * z + z)) ((vs.map fun v => v.cells.toList).flatten) (k * z + z) (vs.length * z) hp
    rw [this]
    simp only [List.map_cons, List.flatten_cons, List.drop_drop]

theorem flat_get {z : Nat} : ∀ {vs : List Value} {i : Nat} {v : Value}, (∀ v ∈ vs, v.cells.size = z) → vs[i]? = some v → (((vs.map fun v => v.cells.toList).flatten).drop (i * z)).take z = v.cells.toList
  | u :: vs, 0, v, hz, h => by
    cases h
    have := hz u (by simp)
    simp only [Nat.zero_mul, List.drop_zero, List.map_cons, List.flatten_cons]
    rw [List.take_append_of_le_length (by simp [this]), List.take_of_length_le (by simp [this])]
  | u :: vs, i + 1, v, hz, h => by
    have := hz u (by simp)
    simp only [List.map_cons, List.flatten_cons]
    have hl : u.cells.toList.length = z := by simpa using this
    have e1 : (i + 1) * z = z + i * z := by rw [Nat.add_mul, Nat.one_mul]; omega
    rw [e1, List.drop_append, List.drop_of_length_le (by omega), List.nil_append, hl, show z + i * z - z = i * z by omega]
    exact flat_get (fun v hv => hz v (by simp [hv])) h

theorem flat_len {z : Nat} : ∀ {vs : List Value}, (∀ v ∈ vs, v.cells.size = z) → ((vs.map fun v => v.cells.toList).flatten).length = vs.length * z
  | [], _ => by simp
  | u :: vs, hz => by
    have := hz u (by simp)
    simp only [List.map_cons, List.flatten_cons, List.length_append, flat_len (vs := vs) (fun v hv => hz v (by simp [hv])), List.length_cons, Nat.add_mul, Nat.one_mul, Array.length_toList, this]
    omega

theorem buildSlice_sound (hE : E.Ok) (h : StRel B ρ st a fs w) {t n : Nat} {parts : Array (Nat × Operand)} {o : Oper} (e : o.op = .buildSlice t n parts) (hk : st.buildSlice E t n parts.toList kv) : Yield E B o a fs w kv := by
  have h0 := frzOps_rel (parts.toList.map (·.2)) h
  unfold St.buildSlice at hk
  simp only at hk
  generalize st.frzOps (parts.toList.map (·.2)) = st1 at h0 hk
  have hd := hE.d t
  split at hk
  · rename_i e' e1
    rw [e1] at hd
    have hd : E.P.underlying t = some (.slice e') := hd
    split at hk
    · rename_i k e2
      obtain ⟨_, _, inf, z, hi, hsz, _, hz, hzc⟩ := hE.k e2
      split at hk
      · rename_i hc
        obtain ⟨hr, hn6, hsm⟩ := hc
        split at hk
        · rename_i xs e3
          have hvs : SV.rels (cx B ρ st1.hp w) (parts.toList.map fun p => st1.ev p.2) (parts.toList.map fun p => a.eval p.2) := by
            have := evs_rel h0 (parts.toList.map (·.2))
            rw [List.map_map, List.map_map] at this
            exact this
          obtain ⟨h1, h2, h3⟩ := asElems_rel e3 hvs
          have hn : parts.toList.length = n := by have := congrArg List.length hr; simpa using this
          have hxn : xs.length = n := by rw [h1]; simpa using hn
          have hzip : (parts.map fun (i, x) => (i, a.eval x)).toList = (List.range' 0 (parts.toList.map fun p => a.eval p.2).length).zip (parts.toList.map fun p => a.eval p.2) := by
            rw [Array.toList_map, List.length_map, hn, ← List.range_eq_range', ← hr, List.zip_map']
          have hzs : z.cells.size = k.sz := by
            have : z.cells.toList.length = k.zero.length := by rw [hzc]
            have hl : ∀ k : Kd, k.zero.length = k.sz := by
              intro k
              induction k <;> simp_all [Kd.zero, Kd.sz]
            rw [hl] at this; simpa using this
          obtain ⟨cells', h4, h5⟩ := fill_row k.sz (parts.toList.map fun p => a.eval p.2) 0 ((Array.range (n * k.sz)).map ((if n * k.sz = 0 then #[] else z.cells)[· % (if n * k.sz = 0 then #[] else z.cells).size]!)) h2 (by simp [hn])
          rw [← hzip] at h4
          have h6 : cells'.toList = ((parts.toList.map fun p => a.eval p.2).map fun v => v.cells.toList).flatten := by
            rw [h5]
            simp [hn]
          have T : Turn B ρ (upd ρ st1.hp.length (.slice (some ⟨w.heap.size, 0, none⟩) n n)) st1.hp (st1.hp ++ [some (.row e' k xs)]) w (w.alloc (.cells cells' e')) st1.hp.length none :=
            Turn.new (World.grownBy_alloc w _ none) (fun b hb => by cases hb; exact Nat.le_refl _)
          have hsz2 : cells'.size = n * k.sz := by
            have := congrArg List.length h6
            rw [flat_len h2] at this
            simpa [hn] using this
          refine ⟨_, w.alloc (.cells cells' e'), _, _, _, .slice (some ⟨w.heap.size, 0, none⟩) n n, ?_, .inl rfl, hk, h0.turn T (fun ob hob => ?_), ⟨by simp, (upd_same _ _ _).symm, _, _, _, rfl⟩⟩
          · unfold execOp
            rw [e]
            have hbig : ¬ (n * inf.size > 2 ^ 24) := by rw [hsz]; omega
            simp only [Instr.buildSlice, Sem.run_bind, run_underlying hd, Result.andThen_ok, run_sizeOf hi, hbig, if_false]
            simp only [hsz]
            have hmap : (parts.map fun (x : Nat × Operand) => (x.fst, a.eval x.snd)) = parts.map fun (i, x) => (i, a.eval x) := rfl
            by_cases h00 : n * k.sz = 0
            · simp only [if_pos h00] at h4
              rw [if_pos h00]
              simp only [Sem.run_bind, Sem.run_pure, Result.andThen_ok, hmap, h4, newRow, run_newObj_alloc]
            · simp only [if_neg h00] at h4
              rw [if_neg h00]
              simp only [zeroValue, typeInfo, run_program, hi, hz, Sem.run_bind, Sem.run_pure, Result.andThen_ok, hmap, h4, newRow, run_newObj_alloc]
          · rw [getElem?_snoc] at hob
            cases hob
            rw [upd_same]
            refine ⟨cells'.toList, ?_, fun i x hx => ?_⟩
            · rw [hxn]
              exact .inl <| World.ownsRow_lit w cells' n (Nat.zero_le _) (by simp only [maxLen]; omega) hsz2
            · obtain ⟨v, h7, h8⟩ := h3 i x hx
              rw [h6, flat_get h2 h7]
              exact h8.step T.le.size T.le.same T.le.F
        · exact hk.elim
      · exact hk.elim
    · exact hk.elim
  · exact hk.elim
end
end Go.Vc
