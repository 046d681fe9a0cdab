/- Loops: what a round may turn, as variables. -/
import Derived.Test.YtkdffofjnjamlaaDoorZVcCode
set_option linter.unusedVariables false
set_option linter.unusedSimpArgs false
namespace Go.Vc
open Go.RowKit

/-- How a place (a slot, a cell of a variable) stands at a loop's head. -/
inductive PE where
  | var (i : Nat) (k : Kd)
  | own (i n : Nat)
  | same (i : Nat) (s : SV)

@[reducible] def PE.Tup : List PE → Type
  | [] => Unit
  | .var _ k :: l => k.T × PE.Tup l
  | .own _ _ :: l => PE.Tup l
  | .same _ _ :: l => PE.Tup l

def PE.mk : (l : List PE) → PE.Tup l → Slots
  | [], _ => []
  | .var i k :: l, y => (i, .dat k y.1) :: PE.mk l y.2
  | .own i n :: l, y => (i, .own n) :: PE.mk l y
  | .same i s :: l, y => (i, s) :: PE.mk l y

def PE.wf : (l : List PE) → PE.Tup l → Prop
  | [], _ => True
  | .var _ k :: l, y => k.wf y.1 ∧ PE.wf l y.2
  | .own _ _ :: l, y => PE.wf l y
  | .same _ _ :: l, y => PE.wf l y

/-- An object at a loop's head. -/
inductive OE where
  | dead
  | row (e : Nat) (k : Kd)
  | rowSame (e : Nat) (k : Kd) (xs : List k.T)
  | var (t : Nat) (l : List PE)
  | iter (l : List Int)
  | iterSame (l : List Int) (pos : Nat)
  | dfr

@[reducible] def OE.Tup : List OE → Type
  | [] => Unit
  | .dead :: l => OE.Tup l
  | .row _ k :: l => List k.T × OE.Tup l
  | .rowSame _ _ _ :: l => OE.Tup l
  | .var _ p :: l => PE.Tup p × OE.Tup l
  | .iter _ :: l => Nat × OE.Tup l
  | .iterSame _ _ :: l => OE.Tup l
  | .dfr :: l => OE.Tup l

def OE.mk : (l : List OE) → OE.Tup l → List (Option Ob)
  | [], _ => []
  | .dead :: l, z => none :: OE.mk l z
  | .row e k :: l, z => some (.row e k z.1) :: OE.mk l z.2
  | .rowSame e k xs :: l, z => some (.row e k xs) :: OE.mk l z
  | .var t p :: l, z => some (.var t ((PE.mk p z.1).map (·.2))) :: OE.mk l z.2
  | .iter t :: l, z => some (.siter t z.1) :: OE.mk l z.2
  | .iterSame t pos :: l, z => some (.siter t pos) :: OE.mk l z
  | .dfr :: l, z => some .dfr :: OE.mk l z

def OE.wf : (l : List OE) → OE.Tup l → Prop
  | [], _ => True
  | .dead :: l, z => OE.wf l z
  | .row _ k :: l, z => Kd.wf (.sl k) z.1 ∧ OE.wf l z.2
  | .rowSame _ _ _ :: l, z => OE.wf l z
  | .var _ p :: l, z => PE.wf p z.1 ∧ OE.wf l z.2
  | .iter _ :: l, z => OE.wf l z.2
  | .iterSame _ _ :: l, z => OE.wf l z
  | .dfr :: l, z => OE.wf l z

/-- Data out of a value, rows included (that are written no more). -/
def St.asData (st : St) (k : Kd) (s : SV) : Option k.T :=
  match s.as k with
  | some x => some x
  | none => match k with
    | .sl k => match st.list s with
      | some ⟨k', xs⟩ => if h : k' = k then some (castL h xs) else none
      | none => none
    | _ => none

/-- Two values that are one: what is to be shown. -/
def sameSV : SV → SV → Option (List Prop)
  | .dat k x, .dat k' x' => if h : k' = k then some [castT h x' = x] else none
  | .cst c, .cst c' => some [c' = c]
  | .own n, .own n' => if n' = n then some [] else none
  | .sub n k o l, .sub n' k' o' l' => if n' = n ∧ k' = k then some [o' = o, l' = l] else none
  | .ptr n o, .ptr n' o' => if n' = n ∧ o' = o then some [] else none
  | .rptr n, .rptr n' => if n' = n then some [] else none
  | .fn f c, .fn f' c' => if f' = f then sameSVs c c' else none
  | .agg c, .agg c' => sameSVs c c'
  | .tup c, .tup c' => sameSVs c c'
  | .ifc t s, .ifc t' s' => if t' = t then sameSV s s' else none
  | .yld, .yld => some []
  | .aar k x, .aar k' x' => if h : k' = k then some [castL h x' = x] else none
  | _, _ => none
where sameSVs : List SV → List SV → Option (List Prop)
  | [], [] => some []
  | s :: l, s' :: l' => match sameSV s s', sameSVs l l' with
    | some p, some q => some (p ++ q)
    | _, _ => none
  | _, _ => none

mutual
def SV.names : SV → List Nat
  | .own n => [n]
  | .sub n _ _ _ => [n]
  | .ptr n _ => [n]
  | .rptr n => [n]
  | .oel n _ _ _ => [n]
  | .fn _ c => SV.namesL c
  | .tup c => SV.namesL c
  | .agg c => SV.namesL c
  | .ifc _ s => SV.names s
  | .gd _ s => SV.names s
  | .dat _ _ | .cst _ | .adr _ _ | .junk | .yld | .aar _ _ => []
def SV.namesL : List SV → List Nat
  | [] => []
  | s :: l => SV.names s ++ SV.namesL l
end

/-- From one reading to another that has the same of some objects. -/
structure Cx.mv (C C' : Cx) (ok : Nat → Prop) : Prop where
  w : C'.w = C.w
  F : ∀ b, b < C.w.heap.size → C'.F b → C.F b
  ok : ∀ n, ok n → n < C'.N ∧ C'.ρ n = C.ρ n
  lp : C'.lp = C.lp

theorem VRep.mv {C C' : Cx} {ok : Nat → Prop} (h : C.mv C' ok) {k : Kd} {x : k.T} {v : Value} (hv : VRep C.w C.F k x v) : VRep C'.w C'.F k x v := by
  obtain ⟨cs, hr, hc⟩ := hv
  rw [h.w]
  exact ⟨cs, hr.mono h.F, hc⟩

mutual
theorem SV.rel.mv {C C' : Cx} {ok : Nat → Prop} (h : C.mv C' ok) : ∀ {s : SV} {v : Value}, (∀ n ∈ s.names, ok n) → s.rel C v → s.rel C' v
  | .dat k x, v, _, hr => VRep.mv h hr
  | .cst c, v, _, hr => hr
  | .own n, v, hn, hr => by
    obtain ⟨h1, h2⟩ := h.ok n (hn n (by simp [SV.names]))
    exact ⟨h1, by rw [h2]; exact hr.2⟩
  | .sub n k off len, v, hn, hr => by
    obtain ⟨h1, h2⟩ := h.ok n (hn n (by simp [SV.names]))
    exact ⟨h1, by rw [h2]; exact hr.2⟩
  | .ptr n o, v, hn, hr => by
    obtain ⟨h1, h2⟩ := h.ok n (hn n (by simp [SV.names]))
    exact ⟨h1, by rw [h2]; exact hr.2⟩
  | .rptr n, v, hn, hr => by
    obtain ⟨h1, h2⟩ := h.ok n (hn n (by simp [SV.names]))
    exact ⟨h1, by rw [h2]; exact hr.2⟩
  | .adr k x, v, _, hr => by
    obtain ⟨ad, cs, e, h1, h2, h3, h4⟩ := hr
    exact ⟨ad, cs, e, by rw [h.w]; exact h1.mono h.F, by rw [h.w]; exact h2, fun hc => h3 (h.F _ h2 hc), by rw [h.w]; exact h4⟩
  | .oel n k i off, v, hn, hr => by
    obtain ⟨h1, h2⟩ := h.ok n (hn n (by simp [SV.names]))
    exact ⟨h1, by rw [h2]; exact hr.2⟩
  | .fn f cap, v, hn, hr => by obtain ⟨vs, e, hs⟩ := hr; exact ⟨vs, e, SV.rels.mv h hn hs⟩
  | .tup l, v, hn, hr => by obtain ⟨vs, e, hs⟩ := hr; exact ⟨vs, e, SV.rels.mv h hn hs⟩
  | .agg l, v, hn, hr => by obtain ⟨vs, e, hs⟩ := hr; exact ⟨vs, e, SV.rels.mv h hn hs⟩
  | .ifc t s, v, hn, hr => by obtain ⟨u, e, hs⟩ := hr; exact ⟨u, e, SV.rel.mv h hn hs⟩
  | .gd p s, v, hn, hr => ⟨fun hp => SV.rel.mv h hn (hr.1 hp), hr.2⟩
  | .junk, _, _, _ => trivial
  | .yld, v, _, hr => by
    have hr : v = _ := hr
    show v = _
    rw [h.lp]; exact hr
  | .aar k xs, v, _, hr => by
    obtain ⟨ad, e, h1, h2, h3⟩ := hr
    refine ⟨ad, e, by rw [h.w]; exact h1, fun hc => h2 (h.F _ h1 hc), ?_⟩
    rw [h.w]
    exact h3.imp (fun x _ cs hr => hr.mono h.F) fun _ _ hu => hu
theorem SV.rels.mv {C C' : Cx} {ok : Nat → Prop} (h : C.mv C' ok) : ∀ {l : List SV} {vs : List Value}, (∀ n ∈ SV.namesL l, ok n) → SV.rels C l vs → SV.rels C' l vs
  | [], _, _, hr => hr
  | s :: l, vs, hn, hr => by
    obtain ⟨v, r, e, h1, h2⟩ := hr
    exact ⟨v, r, e, SV.rel.mv h (fun n hm => hn n (by simp [SV.namesL, hm])) h1, SV.rels.mv h (fun n hm => hn n (by simp [SV.namesL, hm])) h2⟩
end

mutual
theorem sameSV_rel {C : Cx} : ∀ {s s' : SV} {obs : List Prop} {v : Value}, sameSV s s' = some obs → (∀ p ∈ obs, p) → s'.rel C v → s.rel C v
  | .dat k x, s', obs, v, h, ho, hr => by
    cases s' <;> simp only [sameSV] at h <;> try (cases h; done)
    split at h
    · rename_i k' x' e
      subst e
      cases h
      have : x' = x := ho _ (by simp [castT])
      rw [← this]; exact hr
    · cases h
  | .cst c, s', obs, v, h, ho, hr => by
    cases s' <;> simp only [sameSV] at h <;> try (cases h; done)
    rename_i c'
    cases h
    have : c' = c := ho _ (by simp)
    rw [← this]; exact hr
  | .own n, s', obs, v, h, ho, hr => by
    cases s' <;> simp only [sameSV] at h <;> try (cases h; done)
    split at h
    · rename_i e; rw [← e]; exact hr
    · cases h
  | .sub n k o l, s', obs, v, h, ho, hr => by
    cases s' <;> simp only [sameSV] at h <;> try (cases h; done)
    split at h
    · rename_i n' k' o' l' e
      cases h
      have h1 : o' = o := ho _ (by simp)
      have h2 : l' = l := ho _ (by simp)
      rw [← h1, ← h2, ← e.1, ← e.2]; exact hr
    · cases h
  | .ptr n o, s', obs, v, h, ho, hr => by
    cases s' <;> simp only [sameSV] at h <;> try (cases h; done)
    split at h
    · rename_i e; rw [← e.1, ← e.2]; exact hr
    · cases h
  | .rptr n, s', obs, v, h, ho, hr => by
    cases s' <;> simp only [sameSV] at h <;> try (cases h; done)
    split at h
    · rename_i e; rw [← e]; exact hr
    · cases h
  | .fn f c, s', obs, v, h, ho, hr => by
    cases s' <;> simp only [sameSV] at h <;> try (cases h; done)
    split at h
    · rename_i e
      rw [← e]
      obtain ⟨vs, e2, h2⟩ := hr
      exact ⟨vs, e2, sameSVs_rel h ho h2⟩
    · cases h
  | .agg c, s', obs, v, h, ho, hr => by
    cases s' <;> simp only [sameSV] at h <;> try (cases h; done)
    obtain ⟨vs, e2, h2⟩ := hr
    exact ⟨vs, e2, sameSVs_rel h ho h2⟩
  | .tup c, s', obs, v, h, ho, hr => by
    cases s' <;> simp only [sameSV] at h <;> try (cases h; done)
    obtain ⟨vs, e2, h2⟩ := hr
    exact ⟨vs, e2, sameSVs_rel h ho h2⟩
  | .ifc t s, s', obs, v, h, ho, hr => by
    cases s' <;> simp only [sameSV] at h <;> try (cases h; done)
    split at h
    · rename_i e
      rw [← e]
      obtain ⟨u, e2, h2⟩ := hr
      exact ⟨u, e2, sameSV_rel h ho h2⟩
    · cases h
  | .adr k x, s', obs, v, h, ho, hr => by cases s' <;> simp only [sameSV] at h <;> cases h
  | .oel n k i o, s', obs, v, h, ho, hr => by cases s' <;> simp only [sameSV] at h <;> cases h
  | .gd p s, s', obs, v, h, ho, hr => by cases s' <;> simp only [sameSV] at h <;> cases h
  | .junk, s', obs, v, h, ho, hr => trivial
  | .yld, s', obs, v, h, ho, hr => by
    cases s' <;> simp only [sameSV] at h <;> try (cases h; done)
    exact hr
  | .aar k x, s', obs, v, h, ho, hr => by
    cases s' <;> simp only [sameSV] at h <;> try (cases h; done)
    split at h
    · rename_i k' x' e
      subst e
      cases h
      have : x' = x := ho _ (by simp [castL])
      rw [← this]; exact hr
    · cases h
theorem sameSVs_rel {C : Cx} : ∀ {l l' : List SV} {obs : List Prop} {vs : List Value}, sameSV.sameSVs l l' = some obs → (∀ p ∈ obs, p) → SV.rels C l' vs → SV.rels C l vs
  | [], l', obs, vs, h, ho, hr => by
    cases l' <;> simp only [sameSV.sameSVs] at h
    · exact hr
    · cases h
  | s :: l, l', obs, vs, h, ho, hr => by
    cases l' with
    | nil => simp only [sameSV.sameSVs] at h; cases h
    | cons s' l' =>
      simp only [sameSV.sameSVs] at h
      split at h
      · rename_i p q e1 e2
        cases h
        obtain ⟨v, r, e, h1, h2⟩ := hr
        exact ⟨v, r, e, sameSV_rel e1 (fun x hx => ho x (List.mem_append_left _ hx)) h1, sameSVs_rel e2 (fun x hx => ho x (List.mem_append_right _ hx)) h2⟩
      · cases h
end

/-! ### Fitting a state into a loop's head -/
def St.look (st : St) (i : Nat) : SV := match st.sl.lookup i with | some s => s | none => .junk

def PE.fit (st : St) (look : Nat → SV) : (l : List PE) → Option (List Prop × PE.Tup l)
  | [] => some ([], ())
  | .var i k :: l => match st.asData k (look i), PE.fit st look l with
    | some x, some (o, y) => some (o, (x, y))
    | _, _ => none
  | .own _ _ :: l => match PE.fit st look l with
    | some (o, y) => some (o, y)
    | none => none
  | .same i s :: l => match sameSV s (look i), PE.fit st look l with
    | some p, some (o, y) => some (p ++ o, y)
    | _, _ => none

/-- Where the rows at the head come from. -/
def PE.sig (look : Nat → SV) : List PE → List (Nat × SV)
  | [] => []
  | .own i n :: l => (n, look i) :: PE.sig look l
  | .var _ _ :: l => PE.sig look l
  | .same _ _ :: l => PE.sig look l

def srcOf (sig : List (Nat × SV)) (n : Nat) : SV := match sig.lookup n with | some s => s | none => .own n

def cellLook (st : St) (n : Nat) : Nat → SV := match st.hp[n]? with
  | some (some (.var _ cs)) => fun i => match cs[i]? with | some s => s | none => .junk
  | _ => fun _ => .junk

def OE.sig (st : St) : Nat → List OE → List (Nat × SV)
  | _, [] => []
  | n, .var _ p :: l => PE.sig (cellLook st n) p ++ OE.sig st (n + 1) l
  | n, _ :: l => OE.sig st (n + 1) l

def OE.fit (st : St) (sig : List (Nat × SV)) : (n : Nat) → (l : List OE) → Option (List Prop × OE.Tup l)
  | _, [] => some ([], ())
  | n, .dead :: l => match OE.fit st sig (n + 1) l with
    | some (o, z) => some (o, z)
    | none => none
  | n, .row e k :: l => match OE.fit st sig (n + 1) l with
    | some (o, z) => match srcOf sig n with
      | .own m => match st.hp[m]? with
        | some (some (.row e' k' xs)) => if h : k' = k then (if e' = e then some (o, (castL h xs, z)) else none) else none
        | _ => none
      | .cst c => if nilSlice c then some (o, ([], z)) else none
      | _ => none
    | none => none
  | n, .rowSame e k xs :: l => match OE.fit st sig (n + 1) l with
    | some (o, z) => match srcOf sig n with
      | .own m => match st.hp[m]? with
        | some (some (.row e' k' xs')) => if h : k' = k then (if e' = e then some ((castL h xs' = xs) :: o, z) else none) else none
        | _ => none
      | _ => none
    | none => none
  | n, .var t p :: l => match OE.fit st sig (n + 1) l, st.hp[n]? with
    | some (o, z), some (some (.var t' cs)) => if t' = t ∧ cs.length = p.length then
        match PE.fit st (cellLook st n) p with
        | some (q, y) => some (q ++ o, (y, z))
        | none => none
      else none
    | _, _ => none
  | n, .iter t :: l => match OE.fit st sig (n + 1) l, st.hp[n]? with
    | some (o, z), some (some (.siter t' pos)) => some ((t' = t) :: o, (pos, z))
    | _, _ => none
  | n, .iterSame t p :: l => match OE.fit st sig (n + 1) l, st.hp[n]? with
    | some (o, z), some (some (.siter t' pos)) => some ((t' = t) :: (pos = p) :: o, z)
    | _, _ => none
  | n, .dfr :: l => match OE.fit st sig (n + 1) l, st.hp[n]? with
    | some (o, z), some (some .dfr) => some (o, z)
    | _, _ => none

/-- The names that stand in what stays as it is. -/
def PE.names : List PE → List Nat
  | [] => []
  | .same _ s :: l => s.names ++ PE.names l
  | .var _ _ :: l => PE.names l
  | .own _ _ :: l => PE.names l

/-- Rows whose elements are taken as data. -/
def PE.taken (look : Nat → SV) : List PE → List Nat
  | [] => []
  | .var i _ :: l => (look i).names ++ PE.taken look l
  | .same _ _ :: l => PE.taken look l
  | .own _ _ :: l => PE.taken look l

def PE.places : List PE → List Nat
  | [] => []
  | .var i _ :: l => i :: PE.places l
  | .same i _ :: l => i :: PE.places l
  | .own i _ :: l => i :: PE.places l

def sameSrc : SV → SV → Bool
  | .own m, .own m' => m == m'
  | .cst c, .cst c' => nilSlice c && nilSlice c'
  | _, _ => false

def nodupB : List Nat → Bool
  | [] => true
  | a :: l => !l.contains a && nodupB l

/-- The rows and variables at the head, by their names in the state that is fitted. -/
def OE.srcs (sig : List (Nat × SV)) : Nat → List OE → List Nat
  | _, [] => []
  | n, .dead :: l => OE.srcs sig (n + 1) l
  | n, .row _ _ :: l => match srcOf sig n with | .own m => m :: OE.srcs sig (n + 1) l | _ => OE.srcs sig (n + 1) l
  | n, .rowSame _ _ _ :: l => match srcOf sig n with | .own m => m :: OE.srcs sig (n + 1) l | _ => OE.srcs sig (n + 1) l
  | n, .var _ _ :: l => n :: OE.srcs sig (n + 1) l
  | n, .iter _ :: l => n :: OE.srcs sig (n + 1) l
  | n, .iterSame _ _ :: l => n :: OE.srcs sig (n + 1) l
  | n, .dfr :: l => n :: OE.srcs sig (n + 1) l

def OE.allNames : List OE → List Nat
  | [] => []
  | .var _ p :: l => PE.names p ++ OE.allNames l
  | _ :: l => OE.allNames l

def OE.allTaken (st : St) : Nat → List OE → List Nat
  | _, [] => []
  | n, .var _ p :: l => PE.taken (cellLook st n) p ++ OE.allTaken st (n + 1) l
  | n, _ :: l => OE.allTaken st (n + 1) l

def OE.varB (sig : List (Nat × SV)) : Nat → List OE → Bool
  | _, [] => true
  | n, .var _ p :: l => (match sig.lookup n with | none => true | some _ => false) && (PE.places p == List.range p.length) && OE.varB sig (n + 1) l
  | n, .iter _ :: l => (match sig.lookup n with | none => true | some _ => false) && OE.varB sig (n + 1) l
  | n, .iterSame _ _ :: l => (match sig.lookup n with | none => true | some _ => false) && OE.varB sig (n + 1) l
  | n, .dfr :: l => (match sig.lookup n with | none => true | some _ => false) && OE.varB sig (n + 1) l
  | n, _ :: l => OE.varB sig (n + 1) l

def slNames (sl : Slots) : List Nat := SV.namesL (sl.map (·.2))
def dfNames : List DE → List Nat
  | [] => []
  | .mark n :: l => n :: dfNames l
  | .fn _ c :: l => SV.namesL c ++ dfNames l
def stkNames (l : List (Slots × List DE)) : List Nat := l.flatMap fun p => slNames p.1 ++ dfNames p.2

/-- Suspended frames: as they are. -/
def slFit : Slots → Slots → Option (List Prop)
  | [], _ => some []
  | (i, s) :: l, sl' => match sl'.lookup i with
    | some s' => match sameSV s s', slFit l sl' with
      | some p, some q => some (p ++ q)
      | _, _ => none
    | none => none
def dfFit : List DE → List DE → Option (List Prop)
  | [], [] => some []
  | .mark n :: l, .mark n' :: l' => if n' = n then dfFit l l' else none
  | .fn f c :: l, .fn f' c' :: l' => if f' = f then match sameSV.sameSVs c c', dfFit l l' with
      | some p, some q => some (p ++ q)
      | _, _ => none
    else none
  | _, _ => none
def stkFit : List (Slots × List DE) → List (Slots × List DE) → Option (List Prop)
  | [], [] => some []
  | s :: l, s' :: l' => match slFit s.1 s'.1, dfFit s.2 s'.2, stkFit l l' with
    | some p, some d, some q => some (p ++ (d ++ q))
    | _, _, _ => none
  | _, _ => none

def Jump.eqb : Jump → Jump → Bool
  | .ret, .ret => true
  | .exit i, .exit j => i == j
  | _, _ => false
def LS.eqb : LS → LS → Bool
  | .no, .no => true
  | .ready, .ready => true
  | .busy, .busy => true
  | .done i, .done j => i.eqb j
  | _, _ => false
theorem LS.eqb_eq {a b : LS} (h : a.eqb b = true) : a = b := by
  cases a <;> cases b <;> simp_all [LS.eqb]
  rename_i i j
  cases i <;> cases j <;> simp_all [Jump.eqb]

/-- Suspended frames, without what can't be held against itself. -/
def cleanSl : List Nat → Slots → Slots
  | _, [] => []
  | seen, (i, s) :: r => if seen.contains i then cleanSl seen r else
    match sameSV s s with
    | some _ => (i, s) :: cleanSl (i :: seen) r
    | none => cleanSl (i :: seen) r
def cleanStk (l : List (Slots × List DE)) : List (Slots × List DE) := l.map fun p => (cleanSl [] p.1, p.2)

def okSrc (st : St) (sig : List (Nat × SV)) (N : Nat) (n : Nat) : Bool := n < N && n < st.hp.length && (match srcOf sig n with | .own m => m == n | _ => false)

def St.fitB (st : St) (pl : List PE) (ol : List OE) (stk0 : List (Slots × List DE)) (df0 : List DE) (ls0 : LS) : Bool :=
  let sig := PE.sig st.look pl ++ OE.sig st 0 ol
  let srcs := OE.srcs sig 0 ol
  nodupB srcs && OE.varB sig 0 ol && sig.all (fun p => p.1 < ol.length && sameSrc (srcOf sig p.1) p.2) &&
  (PE.names pl ++ OE.allNames ol ++ (dfNames df0 ++ stkNames stk0)).all (okSrc st sig ol.length) &&
  (PE.taken st.look pl ++ OE.allTaken st 0 ol).all (fun m => !srcs.contains m) && (PE.places pl).all (fun i => i < st.n) && LS.eqb st.ls ls0

def St.fitK (st : St) (pl : List PE) (ol : List OE) (stk0 : List (Slots × List DE)) (df0 : List DE) (ls0 : LS) (K : PE.Tup pl → OE.Tup ol → Prop) : Prop :=
  if st.fitB pl ol stk0 df0 ls0 then
    match PE.fit st st.look pl, OE.fit st (PE.sig st.look pl ++ OE.sig st 0 ol) 0 ol, stkFit stk0 st.stk, dfFit df0 st.df with
    | some (o, y), some (o', z), some o'', some d => conj o (conj o' (conj o'' (conj d (K y z))))
    | _, _, _, _ => False
  else False

def headSt (st : St) (pl : List PE) (ol : List OE) (stk0 : List (Slots × List DE)) (df0 : List DE) (ls0 : LS) (y : PE.Tup pl) (z : OE.Tup ol) : St := { n := st.n, sl := PE.mk pl y, kn := [], stk := stk0, hp := OE.mk ol z, df := df0, ls := ls0, gl := st.gl }
end Go.Vc
