/- Contracts of functions over data. -/
import Derived.Test.YtkdffofjnjamlaaDoorZVcFn
set_option linter.unusedVariables false
set_option linter.unusedSimpArgs false
namespace Go.Vc
open Go.RowKit

/-- An argument or a result: data that is read alone, or a row that is given away. -/
inductive AK where
  | dat (k : Kd)
  | own (e : Nat) (k : Kd)

@[reducible] def AK.T : AK → Type
  | .dat k => k.T
  | .own _ k => List k.T

@[reducible] def ATup : List AK → Type
  | [] => Unit
  | a :: l => a.T × ATup l

def AK.wf : (a : AK) → a.T → Prop
  | .dat k, x => k.wf x
  | .own _ k, xs => Kd.wf (.sl k) xs

def ATup.wf : (l : List AK) → ATup l → Prop
  | [], _ => True
  | a :: l, x => a.wf x.1 ∧ ATup.wf l x.2

/-- No memory behind it. -/
def Kd.flat : Kd → Bool
  | .sl _ => false
  | .pair a b => a.flat && b.flat
  | _ => true
def AK.flat : AK → Bool
  | .dat k => k.flat
  | .own _ k => k.flat

def acx (w : World) (F : Nat → Prop) : Cx := ⟨w, F, fun _ => undef, 0, 0⟩

def ARep (w : World) (F : Nat → Prop) : (a : AK) → a.T → Value → Prop
  | .dat k, x, v => VRep w F k x v
  | .own e k, xs, v => (Ob.row e k xs).rel (acx w F) v

def AReps (w : World) (F : Nat → Prop) : (l : List AK) → ATup l → List Value → Prop
  | [], _, vs => vs = []
  | a :: l, x, vs => ∃ v r, vs = v :: r ∧ ARep w F a x.1 v ∧ AReps w F l x.2 r

def handles : List AK → List Value → List Value
  | .own _ _ :: l, v :: r => v :: handles l r
  | .dat _ :: l, _ :: r => handles l r
  | _, _ => []

def ownBlk (l : List AK) (vs : List Value) (b : Nat) : Prop := ∃ v ∈ handles l vs, blk v = some b
def ownSep (l : List AK) (vs : List Value) : Prop := ∀ (i j : Nat) (v u : Value) (b : Nat), (handles l vs)[i]? = some v → (handles l vs)[j]? = some u → blk v = some b → blk u = some b → i = j

structure Con where
  args : List AK
  res : List AK
  pre : ATup args → Prop
  post : ATup args → ATup res → Prop
  /-- May it panic; with a value of which type, of which kind. -/
  pan : Bool := false
  pt : Nat := 0
  pk : Kd := .unit
  ppost : ATup args → pk.T → Prop := fun _ _ => False

def resOf (us : List Value) : Value := if h : us.toArray.size = 1 then us.toArray[0] else .tuple us.toArray

def Con.returns (c : Con) (w : World) (Fb : Nat → Prop) (x : ATup c.args) (vs : List Value) (en : Ending) (w' : World) : Prop :=
  ∃ us y, en = .returned (resOf us) ∧ c.post x y ∧ Kept (ownBlk c.args vs) w w' ∧
      AReps w' (fun b => Fb b ∨ ownBlk c.res us b) c.res y us ∧ ownSep c.res us ∧ ∀ b, ownBlk c.res us b → w.heap.size ≤ b ∨ ownBlk c.args vs b
def Con.panics (c : Con) (w : World) (x : ATup c.args) (vs : List Value) (en : Ending) (w' : World) : Prop :=
  c.pan = true ∧ c.pk.flat = true ∧ ∃ u y, en = .panicked [{ v := .iface c.pt u, recovered := false }] ∧ c.ppost x y ∧ Kept (ownBlk c.args vs) w w' ∧ VRep w' (fun _ => False) c.pk y u

def Con.holds (P : Program) (gl : Gl) (f : Nat) (c : Con) : Prop :=
  ∀ (w : World) (Fb : Nat → Prop) (x : ATup c.args) (vs : List Value), (∀ b, Fb b → b < w.heap.size ∧ ¬ ownBlk c.args vs b) → GlOk gl w (fun b => Fb b ∨ ownBlk c.args vs b) →
    AReps w (fun b => Fb b ∨ ownBlk c.args vs b) c.args x vs → ownSep c.args vs → c.pre x →
    Calls P f vs.toArray w fun en w' => c.returns w Fb x vs en w' ∨ c.panics w x vs en w'

/-! ### What the walk sees of it -/
def canA : (l : List AK) → ATup l → Nat → List SV
  | [], _, _ => []
  | .dat k :: l, x, n => .dat k x.1 :: canA l x.2 n
  | .own _ _ :: l, x, n => .own n :: canA l x.2 (n + 1)
def canH : (l : List AK) → ATup l → List (Option Ob)
  | [], _ => []
  | .dat _ :: l, x => canH l x.2
  | .own e k :: l, x => some (.row e k x.1) :: canH l x.2

def resSVs : List AK → SV → Option (List SV)
  | [_], s => some [s]
  | _, .tup l => some l
  | _, _ => none

def resT (st : St) : (l : List AK) → List SV → Option (ATup l)
  | [], [] => some ()
  | .dat k :: l, s :: r => match st.asData k s, resT st l r with
    | some x, some y => some (x, y)
    | _, _ => none
  | .own e k :: l, .own n :: r => match st.hp[n]?, resT st l r with
    | some (some (.row e' k' xs)), some y => if h : k' = k then (if e' = e then some (castL h xs, y) else none) else none
    | _, _ => none
  | .own _ _ :: l, .cst c :: r => if nilSlice c then (match resT st l r with
      | some y => some ([], y)
      | none => none) else none
  | _, _ => none

def ownsO : List AK → List SV → List (Option Nat)
  | .own _ _ :: l, .own n :: r => some n :: ownsO l r
  | .own _ _ :: l, _ :: r => none :: ownsO l r
  | .dat _ :: l, _ :: r => ownsO l r
  | _, _ => []
def ownsR (l : List AK) (r : List SV) : List Nat := (ownsO l r).filterMap id
def takenR : List AK → List SV → List Nat
  | .dat _ :: l, s :: r => s.names ++ takenR l r
  | .own _ _ :: l, _ :: r => takenR l r
  | _, _ => []
def apartB (l : List AK) (r : List SV) : Bool := nodupB (ownsR l r) && (takenR l r).all fun m => !(ownsR l r).contains m

def St.resK (st : St) (res : List AK) (s : SV) (K : ATup res → Prop) : Prop :=
  match resSVs res s with
  | some l => if apartB res l then
      match resT st res l with
      | some y => K y
      | none => False
    else False
  | none => False

/-- What is asked where it panics. -/
def Con.panK (c : Con) (x : ATup c.args) (s : SV) : Prop :=
  match s with
  | .ifc t s' => if c.pan && (t == c.pt) && c.pk.flat && s'.isAgg && c.pk.isAgg then
      match s'.cells with
      | some l => match unleaf c.pk l with
        | some (y, []) => c.ppost x y
        | _ => False
      | none => False
    else False
  | _ => False

/-- What is asked of a function's body. -/
def Con.vc (c : Con) (gl : Gl) (E : Env) (H : Hints) (n : Nat) (rs : List ResultVar) (body : Code) : Prop :=
  ∀ x, ATup.wf c.args x → c.pre x → vcFn E H n rs body (canA c.args x 0) { n := 0, sl := [], hp := canH c.args x, gl := gl } (fun s st => st.resK c.res s (c.post x)) (fun s _ => c.panK x s)

theorem flat_rep {w w' : World} {F F' : Nat → Prop} : ∀ {k : Kd} {x : k.T} {cs : List Value}, k.flat = true → Rep w F k x cs → Rep w' F' k x cs
  | .int _, _, _, _, h => h
  | .bool, _, _, _, h => h
  | .str, _, _, _, h => h
  | .sl _, _, _, hk, _ => by cases hk
  | .pair a b, _, _, hk, h => by
    simp only [Kd.flat, Bool.and_eq_true] at hk
    obtain ⟨c1, c2, e, h1, h2⟩ := h
    exact ⟨c1, c2, e, flat_rep hk.1 h1, flat_rep hk.2 h2⟩
  | .unit, _, _, _, h => h

/-- Over to another set of blocks that are not read. -/
theorem ARep.over {w : World} {F F' : Nat → Prop} : ∀ {a : AK} {x : a.T} {v : Value}, (a.flat = true ∨ ∀ b, b < w.heap.size → F' b → F b) → ARep w F a x v → ARep w F' a x v
  | .dat k, x, v, h, hr => by
    obtain ⟨cs, h1, h2⟩ := hr
    rcases h with h | h
    · exact ⟨cs, flat_rep h h1, h2⟩
    · exact ⟨cs, h1.mono h, h2⟩
  | .own e k, xs, v, h, hr => by
    obtain ⟨inner, h1, h2⟩ := hr
    refine ⟨inner, h1, fun i x hx => ?_⟩
    rcases h with h | h
    · exact flat_rep (k := k) h (h2 i x hx)
    · exact (h2 i x hx).mono h

theorem AReps.wf {w : World} {F : Nat → Prop} : ∀ {l : List AK} {x : ATup l} {vs : List Value}, AReps w F l x vs → ATup.wf l x
  | [], _, _, _ => trivial
  | .dat k :: l, x, vs, h => by
    obtain ⟨v, r, _, h1, h2⟩ := h
    exact ⟨as_wf h1, AReps.wf h2⟩
  | .own e k :: l, x, vs, h => by
    obtain ⟨v, r, _, h1, h2⟩ := h
    exact ⟨row_wf h1, AReps.wf h2⟩

theorem canH_len : ∀ {l : List AK} {x : ATup l} {w : World} {F : Nat → Prop} {vs : List Value}, AReps w F l x vs → (handles l vs).length = (canH l x).length
  | [], _, _, _, vs, h => by
    obtain rfl : vs = [] := h
    rfl
  | .dat k :: l, x, w, F, vs, h => by
    obtain ⟨v, r, rfl, h1, h2⟩ := h
    simp only [handles, canH]
    exact canH_len h2
  | .own e k :: l, x, w, F, vs, h => by
    obtain ⟨v, r, rfl, h1, h2⟩ := h
    simp [handles, canH, canH_len h2]

theorem can_rel {C : Cx} {F : Nat → Prop} : ∀ {l : List AK} {x : ATup l} {vs : List Value} {n : Nat}, AReps C.w F l x vs → (l.all AK.flat = true ∨ ∀ b, b < C.w.heap.size → C.F b → F b) → n + (canH l x).length ≤ C.N →
    (∀ (i : Nat) (v : Value), (handles l vs)[i]? = some v → C.ρ (n + i) = v) → SV.rels C (canA l x n) vs
  | [], _, vs, _, h, _, _, _ => h
  | .dat k :: l, x, vs, n, h, hF, hN, hρ => by
    obtain ⟨v, r, rfl, h1, h2⟩ := h
    refine ⟨v, r, rfl, ?_, can_rel h2 (hF.imp (fun h => (by simp at h ⊢; exact h.2)) id) hN hρ⟩
    exact ARep.over (a := .dat k) (hF.imp (fun h => (by simp at h; exact h.1)) id) h1
  | .own e k :: l, x, vs, n, h, hF, hN, hρ => by
    obtain ⟨v, r, rfl, h1, h2⟩ := h
    simp only [canH, List.length_cons] at hN
    refine ⟨v, r, rfl, ⟨by omega, (hρ 0 v rfl).symm, ?_⟩, can_rel h2 (hF.imp (fun h => (by simp at h ⊢; exact h.2)) id) (by omega) (fun i u hu => by rw [show n + 1 + i = n + (i + 1) by omega]; exact hρ (i + 1) u hu)⟩
    obtain ⟨inner, h3, _⟩ := h1
    rcases h3.form.2 with ⟨rfl, _⟩ | ⟨g, cap, cur, e0, fz, rfl, _⟩
    · exact ⟨_, _, _, rfl⟩
    · exact ⟨_, _, _, rfl⟩

theorem canH_rel {w : World} {F F' : Nat → Prop} : ∀ {l : List AK} {x : ATup l} {vs : List Value}, AReps w F l x vs → (l.all AK.flat = true ∨ ∀ b, b < w.heap.size → F' b → F b) →
    ∀ (i : Nat) (ob : Ob), (canH l x)[i]? = some (some ob) → ∃ v, (handles l vs)[i]? = some v ∧ ∀ C : Cx, C.w = w → C.F = F' → ob.rel C v
  | [], _, vs, _, _, i, ob, h => by simp [canH] at h
  | .dat k :: l, x, vs, h, hF, i, ob, ho => by
    obtain ⟨v, r, rfl, h1, h2⟩ := h
    exact canH_rel h2 (hF.imp (fun h => (by simp at h ⊢; exact h.2)) id) i ob ho
  | .own e k :: l, x, vs, h, hF, i, ob, ho => by
    obtain ⟨v, r, rfl, h1, h2⟩ := h
    cases i with
    | zero =>
      simp only [canH, List.getElem?_cons_zero, Option.some.injEq] at ho
      subst ho
      refine ⟨v, rfl, fun C e1 e2 => ?_⟩
      obtain ⟨inner, h3, h4⟩ := ARep.over (a := .own e k) (hF.imp (fun h => (by simp at h; exact h.1)) id) h1
      exact ⟨inner, by rw [e1]; exact h3, by rw [e1, e2]; exact h4⟩
    | succ i =>
      simp only [canH, List.getElem?_cons_succ] at ho
      exact canH_rel h2 (hF.imp (fun h => (by simp at h ⊢; exact h.2)) id) i ob ho

section
variable {B : Base} {ρ : Nat → Value} {st : St} {a : Act} {fs : List Act} {w : World}

/-- The rows that are given, by their names. -/
theorem owns_at (h : StRel B ρ st a fs w) : ∀ {l : List AK} {r : List SV} {vs : List Value} {y : ATup l}, resT st l r = some y → SV.rels (cx B ρ st.hp w) r vs →
    ∀ (i : Nat) (v : Value), (handles l vs)[i]? = some v → ∃ o, (ownsO l r)[i]? = some o ∧ ∀ b, blk v = some b → ∃ m, o = some m ∧ v = ρ m ∧ live st.hp m
  | [], r, vs, y, hy, hr, i, v, hv => by
    cases vs <;> simp [handles] at hv
  | .dat k :: l, [], vs, y, hy, hr, i, v, hv => by simp [resT] at hy
  | .own e k :: l, [], vs, y, hy, hr, i, v, hv => by simp [resT] at hy
  | .dat k :: l, s :: r, vs, y, hy, hr, i, v, hv => by
    obtain ⟨u, us, rfl, h1, h2⟩ := hr
    simp only [resT] at hy
    split at hy
    · rename_i x y' e1 e2
      exact owns_at h e2 h2 i v hv
    · cases hy
  | .own e k :: l, s :: r, vs, y, hy, hr, i, v, hv => by
    obtain ⟨u, us, rfl, h1, h2⟩ := hr
    cases s <;> simp only [resT] at hy <;> try (cases hy; done)
    case own n =>
      split at hy
      · rename_i e' k' xs y' e1 e2
        cases i with
        | zero =>
          simp only [handles, List.getElem?_cons_zero, Option.some.injEq] at hv
          subst hv
          exact ⟨some n, rfl, fun b _ => ⟨n, rfl, h1.2.1, ⟨_, e1⟩⟩⟩
        | succ i => exact owns_at h e2 h2 i v hv
      · cases hy
    case cst c =>
      split at hy
      · rename_i hn
        split at hy
        · rename_i y' e2
          cases i with
          | zero =>
            simp only [handles, List.getElem?_cons_zero, Option.some.injEq] at hv
            subst hv
            refine ⟨none, rfl, fun b hb => ?_⟩
            have : u = c := h1
            rw [this, nilSlice_eq hn] at hb
            cases hb
          | succ i => exact owns_at h e2 h2 i v hv
        · cases hy
      · cases hy

theorem nodup_opt : ∀ {os : List (Option Nat)} {i j m : Nat}, nodupB (os.filterMap id) = true → os[i]? = some (some m) → os[j]? = some (some m) → i = j
  | [], i, j, m, _, hi, _ => by simp at hi
  | o :: os, i, j, m, hn, hi, hj => by
    have hn' : nodupB (os.filterMap id) = true ∧ ∀ m', o = some m' → m' ∉ os.filterMap id := by
      cases o with
      | none => exact ⟨by simpa using hn, fun m' e => by cases e⟩
      | some m' =>
        simp only [List.filterMap_cons, id, nodupB, Bool.and_eq_true, Bool.not_eq_true'] at hn
        refine ⟨hn.2, fun m'' e => ?_⟩
        cases e
        simpa using hn.1
    have mem : ∀ {i : Nat}, os[i]? = some (some m) → m ∈ os.filterMap id := fun h => List.mem_filterMap.2 ⟨some m, List.mem_iff_getElem?.2 ⟨_, h⟩, rfl⟩
    cases i with
    | zero =>
      cases j with
      | zero => rfl
      | succ j =>
        simp only [List.getElem?_cons_zero, Option.some.injEq, List.getElem?_cons_succ] at hi hj
        exact absurd (mem hj) (hn'.2 m hi)
    | succ i =>
      cases j with
      | zero =>
        simp only [List.getElem?_cons_zero, Option.some.injEq, List.getElem?_cons_succ] at hi hj
        exact absurd (mem hi) (hn'.2 m hj)
      | succ j =>
        simp only [List.getElem?_cons_succ] at hi hj
        rw [nodup_opt hn'.1 hi hj]

theorem owns_sep (h : StRel B ρ st a fs w) {l : List AK} {r : List SV} {vs : List Value} {y : ATup l} (hy : resT st l r = some y) (hr : SV.rels (cx B ρ st.hp w) r vs) (hn : nodupB (ownsR l r) = true) : ownSep l vs := by
  intro i j v u b hi hj hv hu
  obtain ⟨o1, h1, h2⟩ := owns_at h hy hr i v hi
  obtain ⟨o2, h3, h4⟩ := owns_at h hy hr j u hj
  obtain ⟨m1, rfl, rfl, hl1⟩ := h2 b hv
  obtain ⟨m2, rfl, rfl, hl2⟩ := h4 b hu
  have := h.h.sep m1 m2 b hl1 hl2 hv hu
  subst this
  exact nodup_opt hn h1 h3

theorem owns_blk (h : StRel B ρ st a fs w) {l : List AK} {r : List SV} {vs : List Value} {y : ATup l} (hy : resT st l r = some y) (hr : SV.rels (cx B ρ st.hp w) r vs) {b : Nat} (hb : ownBlk l vs b) :
    ∃ m, m ∈ ownsR l r ∧ live st.hp m ∧ blk (ρ m) = some b := by
  obtain ⟨v, hv, hvb⟩ := hb
  obtain ⟨i, hi⟩ := List.mem_iff_getElem?.1 hv
  obtain ⟨o, h1, h2⟩ := owns_at h hy hr i v hi
  obtain ⟨m, rfl, rfl, hl⟩ := h2 b hvb
  exact ⟨m, List.mem_filterMap.2 ⟨some m, List.mem_iff_getElem?.2 ⟨_, h1⟩, rfl⟩, hl, hvb⟩

/-- What is handed over, as data. -/
theorem resT_rel (h : StRel B ρ st a fs w) {F : Nat → Prop} {srcs : List Nat} (hF : ∀ b, F b → B.Fb b ∨ ∃ m, m ∈ srcs ∧ live st.hp m ∧ blk (ρ m) = some b) :
    ∀ {l : List AK} {r : List SV} {vs : List Value} {y : ATup l}, resT st l r = some y → SV.rels (cx B ρ st.hp w) r vs → (∀ m ∈ takenR l r, m ∉ srcs) → AReps w F l y vs := by
  have f : FitCx B ρ st w ⟨w, F, ρ, st.hp.length, B.lp⟩ [] srcs := ⟨rfl, fun n => by simp [handleOf, srcOf], hF, rfl⟩
  have mono : ∀ b, b < w.heap.size → F b → Forb B ρ st.hp b := fun b _ hb => by
    rcases hF b hb with h | ⟨m, _, h1, h2⟩
    · exact .inl h
    · exact .inr ⟨m, h1, h2⟩
  intro l
  induction l with
  | nil =>
    intro r vs y hy hr _
    cases r with
    | nil => exact hr
    | cons s r => simp [resT] at hy
  | cons k l ih =>
    intro r vs y hy hr ht
    cases r with
    | nil => cases k <;> simp [resT] at hy
    | cons s r =>
      obtain ⟨v, us, rfl, h1, h2⟩ := hr
      cases k with
      | dat k =>
        simp only [resT] at hy
        split at hy
        · rename_i x y' e1 e2
          cases hy
          exact ⟨v, us, rfl, asData_rel h f e1 h1 (fun m hm => ht m (by simp [takenR, hm])), ih e2 h2 (fun m hm => ht m (by simp [takenR, hm]))⟩
        · cases hy
      | own e k =>
        cases s <;> simp only [resT] at hy <;> try (cases hy; done)
        case own n =>
          split at hy
          · rename_i e' k' xs y' e1 e2
            split at hy
            · rename_i ek
              subst ek
              split at hy
              · rename_i ee
                subst ee
                cases hy
                refine ⟨v, us, rfl, ?_, ih e2 h2 (fun m hm => ht m (by simpa [takenR] using hm))⟩
                obtain ⟨inner, h3, h4⟩ := h.h.obj n _ e1
                rw [h1.2.1]
                exact ⟨inner, h3, fun i x hx => (h4 i x hx).mono mono⟩
              · cases hy
            · cases hy
          · cases hy
        case cst c =>
          split at hy
          · rename_i hn
            split at hy
            · rename_i y' e2
              cases hy
              refine ⟨v, us, rfl, ?_, ih e2 h2 (fun m hm => ht m (by simpa [takenR] using hm))⟩
              have : v = c := h1
              rw [this, nilSlice_eq hn]
              exact ⟨[], .inl ⟨by simp, .inl ⟨rfl, rfl⟩⟩, fun i x hx => by simp at hx⟩
            · cases hy
          · cases hy
end
end Go.Vc
