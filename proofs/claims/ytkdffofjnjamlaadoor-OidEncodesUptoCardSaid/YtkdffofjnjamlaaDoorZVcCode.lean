/- Regions and code. -/
import Derived.Test.YtkdffofjnjamlaaDoorZVcFree
set_option linter.unusedVariables false
set_option linter.unusedSimpArgs false
namespace Go.Vc
open Go.RowKit

def St.setK (st : St) (d : Option Nat) (s : SV) (k : St → Prop) : Prop :=
  match d with
  | none => k st
  | some i => if i < st.n then k (st.set (some i) s) else False

/-- A value under a condition; one condition where there are two. -/
def mkGd (p : Bool) : SV → SV
  | .gd q s => .gd (p && q) s
  | s => .gd p s
theorem mkGd_rel {C : Cx} {p : Bool} {s : SV} {v : Value} (h : (SV.gd p s).rel C v) : (mkGd p s).rel C v := by
  unfold mkGd
  split
  · rename_i q s'
    obtain ⟨h1, h2⟩ := h
    cases p with
    | true => obtain ⟨h3, h4⟩ := h1 rfl; exact ⟨fun hq => h3 (by simpa using hq), fun hq => h4 (by simpa using hq)⟩
    | false => exact ⟨fun hq => (by cases hq), fun _ => h2 rfl⟩
  · exact h

/-- A slot that was skipped. -/
def St.skipped (st : St) (g : Nat) : St := { st with sl := (g, .cst undef) :: st.sl }

def vcOps (E : Env) (ops : Array Oper) : List Oper → St → (St → Prop) → (SV → St → Prop) → Prop
  | [], st, kn, _ => kn st
  | o :: rest, st, kn, kp =>
    match o.guard with
    | none => match st.defr E o with
      | some st1 => st1.setK o.dst .junk fun st'' => vcOps E ops rest st'' kn kp
      | none => vcOp E st o (fun s st' => st'.setK o.dst s fun st'' => vcOps E ops rest st'' kn kp) kp
    | some (j, want) => match (ops[j]?).bind (·.dst) with
      | none => False
      | some g => match st.kn.lookup g with
        | some b => if b = want then vcOp E st o (fun s st' => st'.setK o.dst s fun st'' => vcOps E ops rest st'' kn kp) kp
                    else st.setK o.dst (.cst undef) fun st'' => vcOps E ops rest st'' kn kp
        | none => match st.sl.lookup g with
          | some (.cst (.bool b)) => if b = want then vcOp E st o (fun s st' => st'.setK o.dst s fun st'' => vcOps E ops rest st'' kn kp) kp
                    else st.setK o.dst (.cst undef) fun st'' => vcOps E ops rest st'' kn kp
          | some (.cst (.tuple _)) => st.setK o.dst (.cst undef) fun st'' => vcOps E ops rest st'' kn kp
          | some (.dat .bool b) => match st.op1 E.toTy o with
            | some (obs, s) => (b = want → conj obs True) ∧ st.setK o.dst (mkGd (b == want) s) fun st'' => vcOps E ops rest st'' kn kp
            | none => (b = want → vcOp E (st.know g want) o (fun s st' => st'.setK o.dst s fun st'' => vcOps E ops rest st'' kn kp) kp) ∧
                (b = !want → (st.know g (!want)).setK o.dst (.cst undef) fun st'' => vcOps E ops rest st'' kn kp)
          | some (.gd p (.dat .bool b)) => match st.op1 E.toTy o with
            | some (obs, s) => (p = true → b = want → conj obs True) ∧ st.setK o.dst (mkGd (p && (b == want)) s) fun st'' => vcOps E ops rest st'' kn kp
            | none => (p = true → b = want → vcOp E (st.know g want) o (fun s st' => st'.setK o.dst s fun st'' => vcOps E ops rest st'' kn kp) kp) ∧
                (p = true → b = !want → (st.know g (!want)).setK o.dst (.cst undef) fun st'' => vcOps E ops rest st'' kn kp) ∧
                (p = false → (st.skipped g).setK o.dst (.cst undef) fun st'' => vcOps E ops rest st'' kn kp)
          | _ => False

/-- Operations that change nothing, whatever their order. -/
def vcStill (E : Env) : List Oper → St → (St → Prop) → Prop
  | [], st, k => k st
  | o :: rest, st, k => match o.guard, st.op1 E.toTy o with
    | none, some (obs, s) => conj obs (st.setK o.dst s fun st' => vcStill E rest st' k)
    | _, _ => False

def vcStillG (E : Env) (ops : Array Oper) : List Oper → St → (St → Prop) → Prop
  | [], st, k => k st
  | o :: rest, st, k =>
    match o.guard with
    | none => match st.op1 E.toTy o with
      | some (obs, s) => conj obs (st.setK o.dst s fun st' => vcStillG E ops rest st' k)
      | none => False
    | some (j, want) => match (ops[j]?).bind (·.dst) with
      | none => False
      | some g => match st.sl.lookup g with
        | some (.cst (.bool b)) => if b = want then
            match st.op1 E.toTy o with
            | some (obs, s) => conj obs (st.setK o.dst s fun st' => vcStillG E ops rest st' k)
            | none => False
          else st.setK o.dst (.cst undef) fun st' => vcStillG E ops rest st' k
        | some (.cst (.tuple _)) => st.setK o.dst (.cst undef) fun st' => vcStillG E ops rest st' k
        | some (.dat .bool b) => match st.op1 E.toTy o with
          | some (obs, s) => (b = want → conj obs True) ∧ st.setK o.dst (mkGd (b == want) s) fun st' => vcStillG E ops rest st' k
          | none => False
        | some (.gd p (.dat .bool b)) => match st.op1 E.toTy o with
          | some (obs, s) => (p = true → b = want → conj obs True) ∧ st.setK o.dst (mkGd (p && (b == want)) s) fun st' => vcStillG E ops rest st' k
          | none => False
        | _ => False

def stillKind : Op → Bool
  | .pick .. | .move _ | .assign _ | .binOp .. | .unOp .. | .convert .. | .load .. | .indexAddr .. | .index .. | .slice .. | .field .. | .fieldAddr .. | .nilCheck _ | .extract .. | .makeFunc .. | .makeInterface .. => true
  | .call c => match c.callee with
    | .builtin .len | .builtin .min | .builtin .max => true
    | _ => false
  | _ => false

def firstLoud : List Oper → Nat
  | [] => 0
  | o :: l => if stillKind o.op then firstLoud l + 1 else 0

def isDefer : Op → Bool
  | .defer _ => true
  | _ => false

/-- The orders that a region may draw: what is sure goes first. -/
inductive OT where
  | nil
  | bad
  | done
  | mv (i : Nat) (t : OT)
  | pu (i : Nat) (t : OT)
  | one (i : Nat) (t : OT)
  | both (s t : OT)

def plainMove (o : Oper) : Option Operand :=
  match o.op with
  | .move x => some x
  | .assign x => some x
  | _ => none

/-- What a move under a guard yields. -/
def St.guarded (st : St) (ops : Array Oper) (o : Oper) (s : SV) : Option SV :=
  match o.guard with
  | none => some s
  | some (j, want) => match (ops[j]?).bind (·.dst) with
    | none => none
    | some g => match st.sl.lookup g with
      | some (.cst (.bool b)) => some (if b = want then s else .cst undef)
      | some (.cst (.tuple _)) => some (.cst undef)
      | some (.dat .bool b) => some (mkGd (b == want) s)
      | some (.gd p (.dat .bool b)) => some (mkGd (p && (b == want)) s)
      | _ => none

def orders (pu : Oper → Bool) (ops : Array Oper) : Nat → Array Bool → OT
  | 0, listed => if (Region.ready .any ops listed).isEmpty then .done else .bad
  | f + 1, listed =>
    if (Region.ready .any ops listed).isEmpty then .done else
    match (Region.ready .any ops listed).find? fun i => ((ops[i]?).bind plainMove).isSome && Region.free .any ops listed i with
    | some i => .mv i (orders pu ops f (listed.setIfInBounds i true))
    | none => match (Region.ready .any ops listed).find? fun i => ((ops[i]?).elim false pu) && Region.free .any ops listed i with
      | some i => .pu i (orders pu ops f (listed.setIfInBounds i true))
      | none => (Region.ready .any ops listed).foldr (fun i t => .both (.one i (orders pu ops f (listed.setIfInBounds i true))) t) .nil

/-- Operations whose order is drawn. -/
def vcAny (E : Env) (ops : Array Oper) : OT → St → (St → Prop) → Prop
  | .nil, _, _ => True
  | .bad, _, _ => False
  | .done, st, kn => kn st
  | .mv i t, st, kn => match ops[i]? with
    | some o => match plainMove o with
      | some x => match st.guarded ops o (st.ev x) with
        | some s => st.setK o.dst s fun st' => vcAny E ops t st' kn
        | none => False
      | none => False
    | none => False
  | .pu i t, st, kn => match ops[i]? with
    | some o => if pureOp E.toTy o then vcStillG E ops [o] st (fun st' => vcAny E ops t st' kn) else False
    | none => False
  | .one i t, st, kn => match ops[i]? with
    | some o => vcOps E ops [o] st (fun st' => vcAny E ops t st' kn) (fun _ _ => False)
    | none => False
  | .both s t, st, kn => vcAny E ops s st kn ∧ vcAny E ops t st kn

def vcDraw (E : Env) (ops : Array Oper) (st : St) (kn : St → Prop) (kp : SV → St → Prop) : Prop :=
  if ops.toList.any (fun o => isDefer o.op) then False else
  let n := min (firstLoud ops.toList) (ops.size - 1)
  if Region.lexTailB .any ops n then vcStillG E ops (ops.toList.take n) st fun st' => vcOps { E with yld := none, rnd := true } ops (ops.toList.drop n) st' kn kp
  else if Region.lexB .any ops && ops.toList.all (fun o => stillKind o.op) then vcStillG E ops ops.toList st kn
  else if Region.noSelect ops then vcAny { E with yld := none, rnd := true } ops (orders (pureOp E.toTy) ops ops.size (Array.replicate ops.size false)) st kn
  else False

/-- Slots that are kept behind a region: those that are named, the newest each. -/
def trimSl (keep : List Nat) : List Nat → Slots → Slots
  | _, [] => []
  | seen, (i, s) :: r => if seen.contains i || !keep.contains i then trimSl keep seen r else (i, s) :: trimSl keep (i :: seen) r

def St.trim (st : St) (keep : List Nat) : St := { st with sl := trimSl keep [] st.sl, kn := st.kn.filter fun p => keep.contains p.1 }

section
variable {E : Env} {gl : Gl} {B : Base} {ρ : Nat → Value} {st : St} {a : Act} {fs : List Act} {w : World} {kv kp : SV → St → Prop}

theorem trim_lookup (keep : List Nat) : ∀ (sl : Slots) (seen : List Nat) (i : Nat) (s : SV), (trimSl keep seen sl).lookup i = some s → i ∉ seen ∧ sl.lookup i = some s
  | [], _, _, _, h => by cases h
  | (j, t) :: r, seen, i, s, h => by
    simp only [trimSl] at h
    split at h
    · rename_i hc
      obtain ⟨h1, h2⟩ := trim_lookup keep r seen i s h
      refine ⟨h1, ?_⟩
      rw [lookup_cons]
      split
      · rename_i e
        subst e
        simp only [Bool.or_eq_true, Bool.not_eq_true', List.contains_eq_mem, decide_eq_true_eq] at hc
        rcases hc with hc | hc
        · exact absurd hc h1
        · -- not kept: nothing of this name is left
          exfalso
          have : ∀ (r : Slots) (seen : List Nat), (trimSl keep seen r).lookup i = none := by
            intro r
            induction r with
            | nil => intro _; rfl
            | cons p r ih =>
              intro seen
              obtain ⟨q, u⟩ := p
              simp only [trimSl]
              split
              · exact ih _
              · rename_i hq
                rw [lookup_cons, if_neg, ih]
                rintro rfl
                simp only [Bool.or_eq_true, Bool.not_eq_true', not_or, List.contains_eq_mem, Bool.not_eq_false] at hq
                simp_all
          rw [this] at h
          cases h
      · exact h2
    · rw [lookup_cons] at h
      split at h
      · rename_i hc e
        cases h
        subst e
        refine ⟨?_, by rw [lookup_cons, if_pos rfl]⟩
        intro hm
        simp only [Bool.or_eq_true, not_or, List.contains_eq_mem] at hc
        simp_all
      · rename_i hc e
        obtain ⟨h1, h2⟩ := trim_lookup keep r (j :: seen) i s h
        exact ⟨fun hm => h1 (List.mem_cons_of_mem _ hm), by rw [lookup_cons, if_neg e]; exact h2⟩

theorem StRel.skipped (h : StRel B ρ st a fs w) {g : Nat} (hg : g < st.n) (hv : a.tmps.getD g undef = undef) : StRel B ρ (st.skipped g) a fs w :=
  ⟨h.h, ⟨h.s.1, fun i s hs => by
    simp only [St.skipped] at hs
    rw [lookup_cons] at hs
    split at hs
    · rename_i e; cases hs; subst e; exact ⟨hg, hv⟩
    · exact h.s.2 i s hs⟩, h.kn, h.k, h.d, h.g⟩

theorem StRel.trim (h : StRel B ρ st a fs w) (keep : List Nat) : StRel B ρ (st.trim keep) a fs w :=
  ⟨h.h, ⟨h.s.1, fun i s hs => h.s.2 i s (trim_lookup keep st.sl [] i s hs).2⟩, fun t b hb => h.kn t b (List.mem_filter.1 hb).1, h.k, h.d, h.g⟩

theorem setK_sound {d : Option Nat} {s : SV} {k : St → Prop} {v : Value} (hk : st.setK d s k) (h : StRel B ρ st a fs w) (hv : s.rel (cx B ρ st.hp w) v) : ∃ st', k st' ∧ StRel B ρ st' (a.put d v) fs w := by
  unfold St.setK at hk
  cases d with
  | none => exact ⟨st, hk, h⟩
  | some i =>
    simp only at hk
    split at hk
    · rename_i hi
      exact ⟨_, hk, h.put (fun j hj => by cases hj; exact hi) hv⟩
    · exact hk.elim

theorem put_tmps_size (a : Act) (d : Option Nat) (v : Value) : (a.put d v).tmps.size = a.tmps.size := by
  cases d <;> simp [Act.put]
theorem put_defers (a : Act) (d : Option Nat) (v : Value) : (a.put d v).defers = a.defers := by
  cases d <;> rfl

/-- A list of operations, in a logic. -/
def gList {P : Program} {rnd dfr : Prop} (L : Lg P rnd dfr) (ops : Array Oper) (Q : Exit → Act → World → Prop) : List Oper → Act → World → Prop
  | [], a, w => Q .normal a w
  | o :: rest, a, w => if Region.wanted o (yielded ops a.tmps) then L.W o a w (gList L ops Q rest) Q else gList L ops Q rest (a.put o.dst undef) w

theorem gList_plain {P : Program} {ops : Array Oper} {Q : Exit → Act → World → Prop} : ∀ {l : List Oper} {a : Act} {w : World}, gList (Lg.plain P) ops Q l a w → wpList P ops Q l a w
  | [], _, _, h => h
  | o :: rest, a, w, h => by
    unfold gList at h
    unfold wpList
    split
    · rename_i hw
      rw [if_pos hw] at h
      have e : gList (Lg.plain P) ops Q rest = fun a w => gList (Lg.plain P) ops Q rest a w := rfl
      refine .inl (Oper.wp_mono (fun a w hh => gList_plain hh) h)
    · rename_i hw
      rw [if_neg hw] at h
      exact gList_plain h

theorem uponIn_mono {P : Program} {r : Option Nat} {o : Oper} {a : Act} {next next' : Act → World → Prop} {Q : Exit → Act → World → Prop} {res : Result Next} (hn : ∀ a w, next a w → next' a w) (h : o.uponIn (fen r) 0 P a next Q res) : o.uponIn (fen r) 0 P a next' Q res := by
  unfold Oper.uponIn at h
  split at h
  · exact hn _ _ h
  · exact hn _ _ h
  · exact hn _ _ h
  · refine ⟨h.1, CallsIn.mono h.2 fun e w' hw => ?_⟩
    cases e <;> first | exact hn _ _ hw | exact hw
  · exact ⟨h.1, RowsIn.mono h.2 fun v w' hw => hn _ _ hw⟩
  · refine ⟨h.1, RoundIn.mono h.2 fun e w' hw => ?_⟩
    cases e <;> first | exact hn _ _ hw | exact hw
  · exact h
  · exact h.elim

theorem gList_inn {P : Program} {r : Option Nat} {ops : Array Oper} {Q : Exit → Act → World → Prop} : ∀ {l : List Oper} {a : Act} {w : World}, gList (Lg.inn P r) ops Q l a w → wpListIn (fen r) 0 P ops Q l a w
  | [], _, _, h => h
  | o :: rest, a, w, h => by
    unfold gList at h
    unfold wpListIn
    split
    · rename_i hw
      rw [if_pos hw] at h
      exact ⟨h.1, uponIn_mono (fun a w hh => gList_inn hh) h.2⟩
    · rename_i hw
      rw [if_neg hw] at h
      exact ⟨fun _ _ => trivial, gList_inn h⟩

variable {rnd dfr : Prop} {L : Lg E.P rnd dfr}

theorem defr_sound {o : Oper} {st1 : St} (hd : E.rnd = false → dfr) (hdf : st.defr E o = some st1) (h : StRel B ρ st a fs w) {next : Act → World → Prop} {Q : Exit → Act → World → Prop}
    (hv : ∀ a', StRel B ρ st1 a' fs w → next (a'.put o.dst undef) w) : L.W o a w next Q := by
  unfold St.defr at hdf
  split at hdf
  · rename_i c e
    split at hdf
    · cases hdf
    · rename_i hr
      split at hdf
      · rename_i x hc ha
        split at hdf
        · rename_i f cap hx
          cases hdf
          have hxr := ev_rel h x
          rw [hx] at hxr
          obtain ⟨vs, hxe, hcr⟩ := hxr
          have ha : c.args = #[] := by apply Array.ext'; simpa using ha
          refine L.defer (hd (by simpa using hr)) (d := { target := .fn (.func f) vs.toArray, args := #[] }) (w' := w) ?_ (hv _ ⟨h.h, h.s, h.kn, h.k, ⟨vs, _, rfl, hcr, h.d⟩, h.g⟩)
          unfold execOp
          rw [e]
          simp [resolve, hc, ha, hxe, Deferred.ofValue]
        · cases hdf
      · cases hdf
  · cases hdf

theorem vcOps_sound (hE : E.Ok gl) (hB : B.gl = gl) (hy : ∀ hd, E.yld = some hd → rnd ∧ YieldOk E.P B fs hd) (hd : E.rnd = false → dfr) {ops : Array Oper} {Q : Exit → Act → World → Prop} {kn : St → Prop} : ∀ (l : List Oper) {ρ : Nat → Value} {st : St} {a : Act} {w : World}, vcOps E ops l st kn kp → StRel B ρ st a fs w →
    (∀ st' ρ' a' w', kn st' → StRel B ρ' st' a' fs w' → Q .normal a' w') →
    (∀ s st' ρ' v a' w', kp s st' → StRel B ρ' st' a' fs w' → s.rel (cx B ρ' st'.hp w') v → Q (.panic [{ v := v, recovered := false }]) a' w') → gList L ops Q l a w
  | [], ρ, st, a, w, hk, h, hn, _ => hn st ρ a w hk h
  | o :: rest, ρ, st, a, w, hk, h, hn, hp => by
    have run : ∀ {st1 : St}, vcOp E st1 o (fun s st' => st'.setK o.dst s fun st'' => vcOps E ops rest st'' kn kp) kp → StRel B ρ st1 a fs w → L.W o a w (gList L ops Q rest) Q := by
      intro st1 hk1 h1
      refine vcOp_sound hE hB hy h1 hk1 (fun s st' ρ' v w' hs hr hv => ?_) (fun s st' ρ' v w' hs hr hv => hp s st' ρ' v a w' hs hr hv)
      obtain ⟨st2, h2, h3⟩ := setK_sound hs hr hv
      exact vcOps_sound hE hB hy hd rest h2 h3 hn hp
    have skip : ∀ {st1 : St} {s : SV}, (st1.setK o.dst s fun st'' => vcOps E ops rest st'' kn kp) → StRel B ρ st1 a fs w → s.rel (cx B ρ st1.hp w) undef → gList L ops Q rest (a.put o.dst undef) w := by
      intro st1 s hk1 h1 hs
      obtain ⟨st2, h2, h3⟩ := setK_sound hk1 h1 hs
      exact vcOps_sound hE hB hy hd rest h2 h3 hn hp
    simp only [vcOps] at hk
    unfold gList
    split at hk
    · rename_i hg
      rw [if_pos (by simp [Region.wanted, hg])]
      split at hk
      · rename_i st1 hdf
        refine defr_sound hd hdf h (fun a' h1 => ?_)
        obtain ⟨st2, h2, h3⟩ := setK_sound hk h1 (v := undef) (show SV.rel _ .junk undef from trivial)
        exact vcOps_sound hE hB hy hd rest h2 h3 hn hp
      · exact run hk h
    · rename_i j want hg
      split at hk
      · exact hk.elim
      · rename_i g hgd
        have wanted : ∀ b : Bool, g < st.n → a.tmps.getD g undef = .bool b → Region.wanted o (yielded ops a.tmps) = (b == want) := by
          intro b hlt hb
          have hsz : g < a.tmps.size := by rw [h.s.1]; exact hlt
          have : a.tmps[g]? = some (.bool b) := by
            rw [Array.getD_eq_getD_getElem?, Array.getElem?_eq_getElem hsz] at hb
            rw [Array.getElem?_eq_getElem hsz]
            simpa using hb
          simp only [Region.wanted, hg, yielded, hgd, Option.bind_some, this]
          cases b <;> cases want <;> rfl
        split at hk
        · rename_i b hkn
          obtain ⟨h1, h2⟩ := h.kn g b (lookup_mem hkn)
          rw [wanted b h1 h2]
          split at hk
          · rename_i e
            subst e
            rw [if_pos (by simp)]
            exact run hk h
          · rename_i e
            rw [if_neg (by simpa using e)]
            exact skip hk h rfl
        · split at hk
          · rename_i b hlk
            obtain ⟨h1, h2⟩ := h.s.2 g _ hlk
            have h2 : a.tmps.getD g undef = .bool b := h2
            rw [wanted b h1 h2]
            split at hk
            · rename_i e
              subst e
              rw [if_pos (by simp)]
              exact run hk h
            · rename_i e
              rw [if_neg (by simpa using e)]
              exact skip hk h rfl
          · rename_i vs hlk
            obtain ⟨h1, h2⟩ := h.s.2 g _ hlk
            have h2 : a.tmps.getD g undef = .tuple vs := h2
            have hsz : g < a.tmps.size := by rw [h.s.1]; exact h1
            have e : a.tmps[g]? = some (.tuple vs) := by
              rw [Array.getD_eq_getD_getElem?, Array.getElem?_eq_getElem hsz] at h2
              rw [Array.getElem?_eq_getElem hsz]
              simpa using h2
            rw [if_neg (by simp only [Region.wanted, hg, yielded, hgd, Option.bind_some, e]; simp)]
            exact skip hk h rfl
          · rename_i b hlk
            obtain ⟨h1, h2⟩ := h.s.2 g _ hlk
            have h2 := VRep_bool.1 h2
            rw [wanted b h1 h2]
            split at hk
            · rename_i obs s hop
              by_cases e : b = want
              · subst e
                rw [if_pos (by simp)]
                obtain ⟨h3, _⟩ := conj_all (hk.1 rfl)
                obtain ⟨v, h4, h5⟩ := op1_sound hE.ty h hop h3
                refine L.val (op1_nd hop) h4 ?_
                obtain ⟨st2, h6, h7⟩ := setK_sound hk.2 h (v := v) (mkGd_rel ⟨fun _ => h5, fun hc => absurd hc (by simp)⟩)
                exact vcOps_sound hE hB hy hd rest h6 h7 hn hp
              · rw [if_neg (by simpa using e)]
                exact skip hk.2 h (mkGd_rel ⟨fun hc => absurd (by simpa using hc) e, fun _ => rfl⟩)
            · by_cases e : b = want
              · subst e
                rw [if_pos (by simp)]
                exact run (hk.1 rfl) (h.know h1 h2)
              · rw [if_neg (by simpa using e)]
                have e' : b = !want := by cases b <;> cases want <;> simp_all
                exact skip (hk.2 e') (h.know h1 (by rw [h2, e'])) rfl
          · rename_i p b hlk
            obtain ⟨h1, h2, h3⟩ := h.s.2 g _ hlk
            have wtd : Region.wanted o (yielded ops a.tmps) = (p && (b == want)) := by
              cases p with
              | true => rw [wanted b h1 (VRep_bool.1 (h2 rfl))]; rfl
              | false =>
                have hv := h3 rfl
                have hsz : g < a.tmps.size := by rw [h.s.1]; exact h1
                have : a.tmps[g]? = some undef := by
                  rw [Array.getD_eq_getD_getElem?, Array.getElem?_eq_getElem hsz] at hv
                  rw [Array.getElem?_eq_getElem hsz]
                  simpa using hv
                simp only [Region.wanted, hg, yielded, hgd, Option.bind_some, this]
                rfl
            rw [wtd]
            split at hk
            · rename_i obs s hop
              by_cases e : (p && (b == want)) = true
              · rw [if_pos e]
                have e2 := e
                simp only [Bool.and_eq_true, beq_iff_eq] at e2
                obtain ⟨h4, _⟩ := conj_all (hk.1 e2.1 e2.2)
                obtain ⟨v, h5, h6⟩ := op1_sound hE.ty h hop h4
                refine L.val (op1_nd hop) h5 ?_
                obtain ⟨st2, h7, h8⟩ := setK_sound hk.2 h (v := v) (mkGd_rel ⟨fun _ => h6, fun hc => by rw [e] at hc; cases hc⟩)
                exact vcOps_sound hE hB hy hd rest h7 h8 hn hp
              · rw [if_neg e]
                exact skip hk.2 h (mkGd_rel ⟨fun hc => absurd hc e, fun _ => rfl⟩)
            · by_cases e : (p && (b == want)) = true
              · rw [if_pos e]
                have e2 := e
                simp only [Bool.and_eq_true, beq_iff_eq] at e2
                exact run (hk.1 e2.1 e2.2) (h.know h1 (by rw [VRep_bool.1 (h2 e2.1), e2.2]))
              · rw [if_neg e]
                cases p with
                | true =>
                  have e' : b = !want := by cases b <;> cases want <;> simp_all
                  exact skip (hk.2.1 rfl e') (h.know h1 (by rw [VRep_bool.1 (h2 rfl), e'])) rfl
                | false => exact skip (hk.2.2 rfl) (h.skipped h1 (h3 rfl)) rfl
          · exact hk.elim

theorem vcStill_sound (hE : E.Ok gl) {ops : Array Oper} {K : Act → Prop} {k : St → Prop} : ∀ (l : List Oper) {ρ : Nat → Value} {st : St} {a : Act}, vcStill E l st k → StRel B ρ st a fs w →
    (∀ st' ρ' a', k st' → StRel B ρ' st' a' fs w → K a') → wpStill E.P ops w K l a
  | [], ρ, st, a, hk, h, hn => hn st ρ a hk h
  | o :: rest, ρ, st, a, hk, h, hn => by
    simp only [vcStill] at hk
    split at hk
    · rename_i obs s hg hop
      obtain ⟨h1, h2⟩ := conj_all hk
      obtain ⟨v, h3, h4⟩ := op1_sound hE.ty h hop h1
      obtain ⟨st2, h5, h6⟩ := setK_sound h2 h h4
      unfold wpStill
      rw [if_pos (by simp [Region.wanted, hg])]
      unfold Oper.still
      rw [h3]
      exact ⟨rfl, vcStill_sound hE rest h5 h6 hn⟩
    · exact hk.elim

theorem vcStillG_sound (hE : E.Ok gl) {ops : Array Oper} {K : Act → Prop} {k : St → Prop} : ∀ (l : List Oper) {ρ : Nat → Value} {st : St} {a : Act}, vcStillG E ops l st k → StRel B ρ st a fs w →
    (∀ st' ρ' a', k st' → StRel B ρ' st' a' fs w → K a') → wpStill E.P ops w K l a
  | [], ρ, st, a, hk, h, hn => hn st ρ a hk h
  | o :: rest, ρ, st, a, hk, h, hn => by
    have run : ∀ {obs : List Prop} {s : SV}, st.op1 E.toTy o = some (obs, s) → (conj obs (st.setK o.dst s fun st' => vcStillG E ops rest st' k)) → o.still E.P a w (wpStill E.P ops w K rest) := by
      intro obs s hop hk
      obtain ⟨h1, h2⟩ := conj_all hk
      obtain ⟨v, h3, h4⟩ := op1_sound hE.ty h hop h1
      obtain ⟨st2, h5, h6⟩ := setK_sound h2 h h4
      unfold Oper.still
      rw [h3]
      exact ⟨rfl, vcStillG_sound hE rest h5 h6 hn⟩
    have skip : ∀ {s : SV}, (st.setK o.dst s fun st'' => vcStillG E ops rest st'' k) → s.rel (cx B ρ st.hp w) undef → wpStill E.P ops w K rest (a.put o.dst undef) := by
      intro s hk1 hs
      obtain ⟨st2, h2, h3⟩ := setK_sound hk1 h hs
      exact vcStillG_sound hE rest h2 h3 hn
    simp only [vcStillG] at hk
    unfold wpStill
    split at hk
    · rename_i hg
      rw [if_pos (by simp [Region.wanted, hg])]
      split at hk
      · rename_i obs s hop
        exact run hop hk
      · exact hk.elim
    · rename_i j want hg
      split at hk
      · exact hk.elim
      · rename_i g hgd
        have wanted : ∀ b : Bool, g < st.n → a.tmps.getD g undef = .bool b → Region.wanted o (yielded ops a.tmps) = (b == want) := by
          intro b hlt hb
          have hsz : g < a.tmps.size := by rw [h.s.1]; exact hlt
          have : a.tmps[g]? = some (.bool b) := by
            rw [Array.getD_eq_getD_getElem?, Array.getElem?_eq_getElem hsz] at hb
            rw [Array.getElem?_eq_getElem hsz]
            simpa using hb
          simp only [Region.wanted, hg, yielded, hgd, Option.bind_some, this]
          cases b <;> cases want <;> rfl
        split at hk
        · rename_i b hlk
          obtain ⟨h1, h2⟩ := h.s.2 g _ hlk
          have h2 : a.tmps.getD g undef = .bool b := h2
          rw [wanted b h1 h2]
          split at hk
          · rename_i e
            subst e
            rw [if_pos (by simp)]
            split at hk
            · rename_i obs s hop
              exact run hop hk
            · exact hk.elim
          · rename_i e
            rw [if_neg (by simpa using e)]
            exact skip hk rfl
        · rename_i vs hlk
          obtain ⟨h1, h2⟩ := h.s.2 g _ hlk
          have h2 : a.tmps.getD g undef = .tuple vs := h2
          have hsz : g < a.tmps.size := by rw [h.s.1]; exact h1
          have e : a.tmps[g]? = some (.tuple vs) := by
            rw [Array.getD_eq_getD_getElem?, Array.getElem?_eq_getElem hsz] at h2
            rw [Array.getElem?_eq_getElem hsz]
            simpa using h2
          rw [if_neg (by simp only [Region.wanted, hg, yielded, hgd, Option.bind_some, e]; simp)]
          exact skip hk rfl
        · rename_i b hlk
          obtain ⟨h1, h2⟩ := h.s.2 g _ hlk
          have h2 := VRep_bool.1 h2
          rw [wanted b h1 h2]
          split at hk
          · rename_i obs s hop
            by_cases e : b = want
            · subst e
              rw [if_pos (by simp)]
              obtain ⟨h3, _⟩ := conj_all (hk.1 rfl)
              obtain ⟨v, h4, h5⟩ := op1_sound hE.ty h hop h3
              obtain ⟨st2, h6, h7⟩ := setK_sound hk.2 h (v := v) (mkGd_rel ⟨fun _ => h5, fun hc => absurd hc (by simp)⟩)
              unfold Oper.still
              rw [h4]
              exact ⟨rfl, vcStillG_sound hE rest h6 h7 hn⟩
            · rw [if_neg (by simpa using e)]
              exact skip hk.2 (mkGd_rel ⟨fun hc => absurd (by simpa using hc) e, fun _ => rfl⟩)
          · exact hk.elim
        · rename_i p b hlk
          obtain ⟨h1, h2, h3⟩ := h.s.2 g _ hlk
          have wtd : Region.wanted o (yielded ops a.tmps) = (p && (b == want)) := by
            cases p with
            | true => rw [wanted b h1 (VRep_bool.1 (h2 rfl))]; rfl
            | false =>
              have hv := h3 rfl
              have hsz : g < a.tmps.size := by rw [h.s.1]; exact h1
              have : a.tmps[g]? = some undef := by
                rw [Array.getD_eq_getD_getElem?, Array.getElem?_eq_getElem hsz] at hv
                rw [Array.getElem?_eq_getElem hsz]
                simpa using hv
              simp only [Region.wanted, hg, yielded, hgd, Option.bind_some, this]
              rfl
          rw [wtd]
          split at hk
          · rename_i obs s hop
            by_cases e : (p && (b == want)) = true
            · rw [if_pos e]
              have e2 := e
              simp only [Bool.and_eq_true, beq_iff_eq] at e2
              obtain ⟨h4, _⟩ := conj_all (hk.1 e2.1 e2.2)
              obtain ⟨v, h5, h6⟩ := op1_sound hE.ty h hop h4
              obtain ⟨st2, h7, h8⟩ := setK_sound hk.2 h (v := v) (mkGd_rel ⟨fun _ => h6, fun hc => by rw [e] at hc; cases hc⟩)
              unfold Oper.still
              rw [h5]
              exact ⟨rfl, vcStillG_sound hE rest h7 h8 hn⟩
            · rw [if_neg e]
              exact skip hk.2 (mkGd_rel ⟨fun hc => absurd hc e, fun _ => rfl⟩)
          · exact hk.elim
        · exact hk.elim

theorem upon_in {P : Program} {r : Option Nat} {o : Oper} {next next' : Act → World → Prop} {Q : Exit → Act → World → Prop} {res : Result Next} (hq : ¬ LetsOut Q) (hn : ∀ a w, next a w → next' a w) (h : o.upon P a next Q res) : o.uponIn (fen r) 0 P a next' Q res := by
  unfold Oper.upon at h
  split at h
  · exact hn _ _ h
  · exact hn _ _ h
  · exact hn _ _ h
  · refine ⟨fun h => (by cases h), ?_⟩
    have : CallsIn Fence.wide 0 P _ _ _ _ := callsIn_wide.2 h
    have h2 : CallsIn (fen r) 0 P _ _ _ _ := this
    refine CallsIn.mono h2 fun e w' hw => ?_
    cases e with
    | returned v => exact hn _ _ hw
    | panicked ch => exact hw
    | outgrown => exact absurd hw hq
  · refine ⟨fun h => (by cases h), ?_⟩
    intro c cs _
    obtain ⟨v, w', h1, h2⟩ := h c cs
    exact ⟨v, w', hn _ _ h1, stepsIn_wide.2 h2⟩
  · exact h
  · exact h.elim

theorem wpOps_in {P : Program} {r : Option Nat} {ops : Array Oper} {Q : Exit → Act → World → Prop} (hq : ¬ LetsOut Q) (hnd : ∀ (i : Nat) (o : Oper), ops[i]? = some o → ∀ c, o.op ≠ .defer c) : ∀ (l : List Nat) (a : Act) (w : World), wpOps P ops Q l a w → wpOpsIn (fen r) 0 P ops Q l a w
  | [], _, _, h => h
  | i :: rest, a, w, h => by
    unfold wpOps at h
    unfold wpOpsIn
    split at h
    · rename_i ho
      simp only [ho]
      exact wpOps_in hq hnd rest a w h
    · rename_i o ho
      simp only [ho]
      split at h
      · rename_i hw
        rw [if_pos hw]
        rcases h with h | ⟨_, h⟩
        · refine ⟨fun _ _ => trivial, ?_⟩
          rw [semAt_eq (hnd i o ho)]
          exact upon_in hq (fun a w hh => wpOps_in hq hnd rest a w hh) h
        · exact absurd h hq
      · rename_i hw
        rw [if_neg hw]
        exact ⟨fun _ _ => trivial, wpOps_in hq hnd rest _ w h⟩

theorem draw_any {P : Program} {r : Option Nat} {id : Nat} {ops : Array Oper} {Q : Exit → Act → World → Prop} (hm : P.follows .mixedOrders = true) (hq : ¬ LetsOut Q) (hnd : ∀ (i : Nat) (o : Oper), ops[i]? = some o → ∀ c, o.op ≠ .defer c)
    (h : wpAny P .any ops Q ops.size (Array.replicate ops.size false) a { w with drawn := w.drawn + 1 }) : (Code.region id ops true).wpIn (fen r) 0 P Q a w :=
  wpIn_region_draw fun t => by
    simp only [Region.schedule, hm, Bool.true_or, if_true]
    exact wpOps_in hq hnd _ _ _ (wpAny_sound ops.size t _ a _ h)

theorem any_still {P : Program} {ops : Array Oper} {Q : Exit → Act → World → Prop} (hB : Region.lexB .any ops = true)
    (h : wpStill P ops w (fun a' => Q .normal a' w) ops.toList a) : wpAny P .any ops Q ops.size (Array.replicate ops.size false) a w := by
  simp only [Region.lexB, Bool.and_eq_true] at hB
  refine wpAny_of_still (Q := fun a' => Q .normal a' w) (fun _ h => h) _ _ _ ?_
  have := wpAnyS_lex (md := .any) hB.1 ops.toList 0 (Array.replicate ops.size false) a (by simp) (by simpa using hB.2) h
  simpa using this

theorem any_tail {P : Program} {Q : Exit → Act → World → Prop} {l : List Oper} (n : Nat) (hB : Region.lexTailB .any l.toArray n = true)
    (h : wpStill P l.toArray w (fun a' => wpList P l.toArray Q (l.drop n) a' w) (l.take n) a) : wpAny P .any l.toArray Q l.toArray.size (Array.replicate l.toArray.size false) a w := by
  simp only [Region.lexTailB, Bool.and_eq_true, decide_eq_true_eq] at hB
  obtain ⟨⟨⟨⟨hsel, hn⟩, hs⟩, hc⟩, hlex⟩ := hB
  have hn' : n < l.length := by simpa using hn
  have htl : (l.take n).length = n := by simp; omega
  have hdl : (l.drop n).length = l.toArray.size - n := by simp
  have inv0 : HeadInv .any l.toArray n (Array.replicate l.toArray.size false) :=
    ⟨by simp, fun j oj _ hl => (by rw [getD_replicate_false] at hl; cases hl), fun t _ ht => getD_in (by simpa using ht) (getD_replicate_false _ _)⟩
  have H := wpAnyL_lex (md := .any) (g := l.toArray.size - n) hsel hs hc hn (l.take n) 0 _ a (fun j hj => by
    have hj' : j < n := by rw [htl] at hj; exact hj
    simp [hj']) (by simpa using htl) inv0 (by rw [htl]; exact hlex) h
  have := wpAny_of_head (Q' := Q) (g := l.toArray.size - n) (fun listed a' hL => by
    have := wpAny_of_seq (md := .any) (Q' := Q) (l.drop n) n listed a' w (fun j => by simp [List.getElem?_drop]) (by rw [hdl]; exact hL.1) hL.2
    rwa [hdl] at this) _ _ _ H
  rw [htl, show n + (l.toArray.size - n) = l.toArray.size by omega] at this
  exact this

theorem both_mem {ops : Array Oper} {g : Nat → OT} {kn : St → Prop} {i : Nat} : ∀ {l : List Nat}, vcAny E ops (l.foldr (fun i t => .both (.one i (g i)) t) .nil) st kn → i ∈ l → vcAny E ops (.one i (g i)) st kn
  | [], _, hi => by cases hi
  | j :: l, h, hi => by
    rcases List.mem_cons.1 hi with rfl | hi
    · exact h.1
    · exact both_mem h.2 hi

theorem plainMove_spec {o : Oper} {x : Operand} (h : plainMove o = some x) : ∀ (P : Program) (ρ : Operand → Value) (w : World), (execOp ρ o).run P w = .ok (.value (ρ x)) w := by
  unfold plainMove at h
  split at h
  · rename_i y e; cases h
    exact fun P ρ w => by unfold execOp; rw [e]; rfl
  · rename_i y e; cases h
    exact fun P ρ w => by unfold execOp; rw [e]; rfl
  · cases h

theorem guarded_sound (h : StRel B ρ st a fs w) {ops : Array Oper} {o : Oper} {s s' : SV} {v : Value} (hs : s.rel (cx B ρ st.hp w) v) (hg : st.guarded ops o s = some s') :
    (Region.wanted o (yielded ops a.tmps) = true ∧ s'.rel (cx B ρ st.hp w) v) ∨ (Region.wanted o (yielded ops a.tmps) = false ∧ s'.rel (cx B ρ st.hp w) undef) := by
  unfold St.guarded at hg
  split at hg
  · rename_i e
    cases hg
    exact .inl ⟨by simp [Region.wanted, e], hs⟩
  · rename_i j want e
    split at hg
    · cases hg
    · rename_i g hgd
      have wanted : ∀ b : Bool, g < st.n → a.tmps.getD g undef = .bool b → Region.wanted o (yielded ops a.tmps) = (b == want) := by
        intro b hlt hb
        have hsz : g < a.tmps.size := by rw [h.s.1]; exact hlt
        have : a.tmps[g]? = some (.bool b) := by
          rw [Array.getD_eq_getD_getElem?, Array.getElem?_eq_getElem hsz] at hb
          rw [Array.getElem?_eq_getElem hsz]
          simpa using hb
        simp only [Region.wanted, e, yielded, hgd, Option.bind_some, this]
        cases b <;> cases want <;> rfl
      have notB : ∀ vs, g < st.n → a.tmps.getD g undef = .tuple vs → Region.wanted o (yielded ops a.tmps) = false := by
        intro vs hlt hb
        have hsz : g < a.tmps.size := by rw [h.s.1]; exact hlt
        have : a.tmps[g]? = some (.tuple vs) := by
          rw [Array.getD_eq_getD_getElem?, Array.getElem?_eq_getElem hsz] at hb
          rw [Array.getElem?_eq_getElem hsz]
          simpa using hb
        simp only [Region.wanted, e, yielded, hgd, Option.bind_some, this]
        rfl
      split at hg
      · rename_i b hlk
        obtain ⟨h1, h2⟩ := h.s.2 g _ hlk
        have h2 : a.tmps.getD g undef = .bool b := h2
        cases hg
        rw [wanted b h1 h2]
        by_cases e : b = want
        · rw [if_pos e]; exact .inl ⟨by simpa using e, hs⟩
        · rw [if_neg e]; exact .inr ⟨by simpa using e, rfl⟩
      · rename_i vs hlk
        obtain ⟨h1, h2⟩ := h.s.2 g _ hlk
        cases hg
        exact .inr ⟨notB vs h1 h2, rfl⟩
      · rename_i b hlk
        obtain ⟨h1, h2⟩ := h.s.2 g _ hlk
        cases hg
        rw [wanted b h1 (VRep_bool.1 h2)]
        cases e : (b == want) with
        | true => exact .inl ⟨rfl, mkGd_rel ⟨fun _ => hs, fun hc => by cases hc⟩⟩
        | false => exact .inr ⟨rfl, mkGd_rel ⟨fun hc => (by cases hc), fun _ => rfl⟩⟩
      · rename_i p b hlk
        obtain ⟨h1, h2, h3⟩ := h.s.2 g _ hlk
        have wtd : Region.wanted o (yielded ops a.tmps) = (p && (b == want)) := by
          cases p with
          | true => rw [wanted b h1 (VRep_bool.1 (h2 rfl))]; rfl
          | false => rw [notB #[] h1 (h3 rfl)]; rfl
        cases hg
        rw [wtd]
        cases e : (p && (b == want)) with
        | true => exact .inl ⟨rfl, mkGd_rel ⟨fun _ => hs, fun hc => by cases hc⟩⟩
        | false => exact .inr ⟨rfl, mkGd_rel ⟨fun hc => (by cases hc), fun _ => rfl⟩⟩
      · cases hg

theorem upon_exits {P : Program} {o : Oper} {a : Act} {next : Act → World → Prop} {Q Q' : Exit → Act → World → Prop} {res : Result Next} (hp : ∀ c a w, ¬ Q' (.panic c) a w) (ho : ¬ LetsOut Q') (h : o.upon P a next Q' res) : o.upon P a next Q res := by
  unfold Oper.upon at h
  split at h
  · exact h
  · exact h
  · exact h
  · refine Calls.mono h fun e w' hw => ?_
    cases e with
    | returned v => exact hw
    | panicked ch => exact absurd hw (hp _ _ _)
    | outgrown => exact absurd hw ho
  · exact h
  · exact absurd h (hp _ _ _)
  · exact h.elim

theorem wpAny_exits {P : Program} {ops : Array Oper} {Q Q' : Exit → Act → World → Prop} (hp : ∀ c a w, ¬ Q' (.panic c) a w) (ho : ¬ LetsOut Q') (hn : ∀ a w, Q' .normal a w → Q .normal a w) :
    ∀ (f : Nat) (listed : Array Bool) (a : Act) (w : World), wpAny P .any ops Q' f listed a w → wpAny P .any ops Q f listed a w
  | 0, _, _, _, h => ⟨h.1, hn _ _ h.2⟩
  | f + 1, _, a, w, h => ⟨fun hr => hn _ _ (h.1 hr), fun i hi => by
    have h1 := wpOp_mono (fun a w hh => wpAny_exits hp ho hn f _ a w hh) (h.2 i hi)
    unfold wpOp at h1 ⊢
    split at h1
    · exact h1
    · split at h1
      · rename_i hw
        rw [if_pos hw]
        rcases h1 with h1 | ⟨_, h1⟩
        · exact .inl (upon_exits hp ho h1)
        · exact absurd h1 ho
      · rename_i hw
        rw [if_neg hw]
        exact h1⟩

theorem vcAny_sound (hE : E.Ok gl) (hB : B.gl = gl) (hy : E.yld = none) (hr : E.rnd = true) {ops : Array Oper} (hs : Region.noSelect ops = true) {Q : Exit → Act → World → Prop} (hp : ∀ c a w, ¬ Q (.panic c) a w) {kn : St → Prop}
    (hn : ∀ st' ρ' a' w', kn st' → StRel B ρ' st' a' fs w' → Q .normal a' w') : ∀ (f : Nat) (listed : Array Bool) {ρ : Nat → Value} {st : St} {a : Act} {w : World},
    vcAny E ops (orders (pureOp E.toTy) ops f listed) st kn → StRel B ρ st a fs w → wpAny E.P .any ops Q f listed a w
  | 0, listed, ρ, st, a, w, hk, h => by
    simp only [orders] at hk
    split at hk
    · rename_i he
      exact ⟨by simpa using he, hn _ _ _ _ hk h⟩
    · exact hk.elim
  | f + 1, listed, ρ, st, a, w, hk, h => by
    simp only [orders] at hk
    split at hk
    · rename_i he
      exact wpAny_done (by simpa using he) (hn _ _ _ _ hk h) _
    rename_i hne
    split at hk
    · rename_i i hf
      have hf1 := List.find?_some hf
      have hf2 := List.mem_of_find?_eq_some hf
      simp only [Bool.and_eq_true] at hf1
      simp only [vcAny] at hk
      split at hk
      · rename_i o ho
        split at hk
        · rename_i x hx
          have hrun := plainMove_spec hx
          split at hk
          · rename_i s hgu
            rcases guarded_sound h (ev_rel h x) hgu with ⟨hw, hv⟩ | ⟨hw, hv⟩
            · obtain ⟨st2, h2, h3⟩ := setK_sound hk h hv
              exact wpAny_take ho hs hf1.2 (by simpa using hf2) (fun c a w hq => absurd hq (hp _ _ _)) (.inl ⟨hw, fun w => hrun _ _ _⟩) (vcAny_sound hE hB hy hr hs hp hn f _ h2 h3)
            · obtain ⟨st2, h2, h3⟩ := setK_sound hk h hv
              exact wpAny_take ho hs hf1.2 (by simpa using hf2) (fun c a w hq => absurd hq (hp _ _ _)) (.inr ⟨hw, rfl⟩) (vcAny_sound hE hB hy hr hs hp hn f _ h2 h3)
          · exact hk.elim
        · exact hk.elim
      · exact hk.elim
    split at hk
    · rename_i i hf
      have hf1 := List.find?_some hf
      have hf2 := List.mem_of_find?_eq_some hf
      simp only [Bool.and_eq_true] at hf1
      simp only [vcAny] at hk
      split at hk
      · rename_i o ho
        split at hk
        · rename_i hpu
          have hfr := pureOp_free hE.ty hpu a.eval
          have h1 := vcStillG_sound (K := fun a' => ∃ st' ρ', vcAny E ops (orders (pureOp E.toTy) ops f (listed.setIfInBounds i true)) st' kn ∧ StRel B ρ' st' a' fs w) hE [o] hk h (fun st' ρ' a' h1 h2 => ⟨st', ρ', h1, h2⟩)
          unfold wpStill at h1
          split at h1
          · rename_i hw
            unfold Oper.still at h1
            rcases hfr with ⟨v, hn1⟩ | hno
            · rw [hn1 w] at h1
              obtain ⟨_, st', ρ', h2, h3⟩ := h1
              exact wpAny_take ho hs hf1.2 (by simpa using hf2) (fun c a w hq => absurd hq (hp _ _ _)) (.inl ⟨hw, hn1⟩) (vcAny_sound hE hB hy hr hs hp hn f _ h2 h3)
            · exact absurd h1 (by
                generalize hres : (execOp a.eval o).run E.P w = res
                intro hc
                cases res with
                | ok n w' => exact hno w n w' hres
                | halt x w' => exact hc)
          · rename_i hw
            obtain ⟨st', ρ', h2, h3⟩ := h1
            exact wpAny_take ho hs hf1.2 (by simpa using hf2) (fun c a w hq => absurd hq (hp _ _ _)) (.inr ⟨by simpa using hw, rfl⟩) (vcAny_sound hE hB hy hr hs hp hn f _ h2 h3)
        · exact hk.elim
      · exact hk.elim
    · refine ⟨fun he => absurd he (by simpa using hne), fun i hi => ?_⟩
      have h1 := both_mem hk hi
      simp only [vcAny] at h1
      split at h1
      · rename_i o ho
        have h2 := vcOps_sound (L := Lg.plain E.P) (dfr := False) (Q := fun e a w => match e with | .normal => wpAny E.P .any ops Q f (listed.setIfInBounds i true) a w | _ => False) hE hB (fun hd hh => by rw [hy] at hh; cases hh) (fun hh => by rw [hr] at hh; cases hh) _ h1 h
          (fun st' ρ' a' w' hk' h' => vcAny_sound hE hB hy hr hs hp hn f _ hk' h') (fun _ _ _ _ _ _ hh => hh.elim)
        have h3 := gList_plain h2
        unfold wpOp
        rw [ho]
        simp only
        unfold wpList at h3
        split
        · rename_i hw
          rw [if_pos hw] at h3
          rcases h3 with h3 | ⟨_, a', w', h4⟩
          · left
            refine upon_exits (Q' := fun e a w => match e with | .normal => wpAny E.P .any ops Q f (listed.setIfInBounds i true) a w | _ => False) (fun _ _ _ hh => hh) (fun ⟨_, _, hh⟩ => hh) ?_
            exact h3
          · exact h4.elim
        · rename_i hw
          rw [if_neg hw] at h3
          exact h3
      · exact h1.elim

theorem Env.Ok.quiet (hE : E.Ok gl) : Env.Ok { E with yld := none, rnd := true } gl := ⟨hE.ty, hE.fn, hE.seq, hE.df, hE.mixed⟩

theorem vcDraw_sound {r : Option Nat} (hE : E.Ok gl) (hB : B.gl = gl) {id : Nat} {ops : Array Oper} {Q : Exit → Act → World → Prop} (hq : ¬ LetsOut Q) {kn : St → Prop} (hk : vcDraw E ops st kn kp) (h : StRel B ρ st a fs w)
    (hn : ∀ st' ρ' a' w', kn st' → StRel B ρ' st' a' fs w' → Q .normal a' w')
    (hp : ∀ s st' ρ' v a' w', kp s st' → StRel B ρ' st' a' fs w' → s.rel (cx B ρ' st'.hp w') v → Q (.panic [{ v := v, recovered := false }]) a' w') : (Code.region id ops true).wpIn (fen r) 0 E.P Q a w := by
  have h' : StRel B ρ st a fs { w with drawn := w.drawn + 1 } := h.same_heap rfl rfl rfl rfl
  unfold vcDraw at hk
  split at hk
  · exact hk.elim
  rename_i hdef
  have hnd : ∀ (i : Nat) (o : Oper), ops[i]? = some o → ∀ c, o.op ≠ .defer c := by
    intro i o ho c e
    apply hdef
    rw [List.any_eq_true]
    exact ⟨o, by simpa using Array.mem_of_getElem? ho, by rw [e]; rfl⟩
  simp only at hk
  split at hk
  · rename_i ht
    have e : ops = ops.toList.toArray := by simp
    refine draw_any hE.mixed hq hnd ?_
    rw [e]
    rw [e] at ht
    simp only [List.size_toArray, Array.length_toList] at ht
    refine any_tail _ ht ?_
    refine vcStillG_sound hE _ hk h' (fun st' ρ' a' hs hr => ?_)
    have := vcOps_sound (E := { E with yld := none, rnd := true }) (L := Lg.plain E.P) (dfr := False) hE.quiet hB (fun hd h => by cases h) (fun h => by cases h) _ hs hr hn hp
    rw [e] at this
    exact gList_plain (by simpa using this)
  · split at hk
    · rename_i ht
      simp only [Bool.and_eq_true] at ht
      exact draw_any hE.mixed hq hnd (any_still ht.1 (vcStillG_sound hE _ hk h' (fun st' ρ' a' hs hr => hn st' ρ' a' _ hs hr)))
    · split at hk
      · rename_i hsel
        refine draw_any hE.mixed hq hnd (wpAny_exits (Q' := fun e a w => match e with | .normal => Q .normal a w | _ => False) (fun _ _ _ hh => hh) (fun ⟨_, _, hh⟩ => hh) (fun _ _ hh => hh) _ _ _ _ ?_)
        exact vcAny_sound (E := { E with yld := none, rnd := true }) (Q := fun e a w => match e with | .normal => Q .normal a w | _ => False) hE.quiet hB rfl rfl hsel (fun _ _ _ hh => hh) hn _ _ hk h'
      · exact hk.elim
end
end Go.Vc
