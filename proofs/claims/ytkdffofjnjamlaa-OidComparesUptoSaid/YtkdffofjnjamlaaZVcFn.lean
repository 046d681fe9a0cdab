/- A function's body: walked at the place of its call. -/
import Derived.Test.YtkdffofjnjamlaaZVcRun
namespace Go.Vc
open Go.RowKit

def enumFrom : Nat → List SV → Slots
  | _, [] => []
  | i, s :: l => (i, s) :: enumFrom (i + 1) l

def St.push (st : St) (n : Nat) (args : List SV) : St := { n := n, sl := enumFrom 0 args, kn := [], stk := st.sl :: st.stk, hp := st.hp }

def St.pop (st0 st : St) : Option St :=
  match st.stk with
  | sl :: r => some { n := st0.n, sl := sl, kn := st0.kn, stk := r, hp := st.hp }
  | [] => none

/-- What a function gives back. -/
def resSV (E : Ty) (st : St) : List ResultVar → Option (List Prop × List SV)
  | [] => some ([], [])
  | .tmp t :: l => match resSV E st l with
    | some (o, r) => some (o, st.ev (.tmp t) :: r)
    | none => none
  | .cell a t :: l => match st.load E t (st.ev (.tmp a)), resSV E st l with
    | some (p, s), some (o, r) => some (p ++ o, s :: r)
    | _, _ => none

def resVal : List SV → SV
  | [s] => s
  | l => .tup l

def vcFn (E : Env) (H : Hints) (n : Nat) (rs : List ResultVar) (body : Code) : CallSem := fun args st kv kp =>
  if args.length ≤ n then
    vcCode E H body (st.push n args) fun e st' => match e with
      | .normal => match resSV E.toTy st' rs, st.pop st' with
        | some (o, l), some st'' => conj o (kv (resVal l) st'')
        | _, _ => False
      | .ret => match resSV E.toTy st' rs, st.pop st' with
        | some (o, l), some st'' => conj o (kv (resVal l) st'')
        | _, _ => False
      | .pan s => match st.pop st' with
        | some st'' => kp s st''
        | none => False
      | .exit _ => False
  else False

theorem lookup_enumFrom : ∀ (l : List SV) (k i : Nat) (s : SV), (enumFrom k l).lookup i = some s → k ≤ i ∧ l[i - k]? = some s
  | [], _, _, _, h => by cases h
  | t :: l, k, i, s, h => by
    simp only [enumFrom] at h
    rw [lookup_cons] at h
    split at h
    · rename_i e
      cases h
      subst e
      simp
    · rename_i e
      obtain ⟨h1, h2⟩ := lookup_enumFrom l (k + 1) i s h
      refine ⟨by omega, ?_⟩
      rw [show i - k = (i - (k + 1)) + 1 by omega, List.getElem?_cons_succ]
      exact h2

def resF (tmps : Array Value) : ResultVar → Sem Value
  | .tmp t => pure (tmps.getD t undef)
  | .cell a t => do loadVar t (← asAddr (tmps.getD a undef))

theorem loadAt_ok {P : Program} {t : Nat} {v v' : Value} {w : World} (h : (Instr.loadAt t v).run P w = .ok v' w) : (do loadVar t (← asAddr v) : Sem Value).run P w = .ok v' w := by
  unfold Instr.loadAt Instr.sureAddr at h
  unfold asAddr
  cases v with
  | pointer a =>
    cases a with
    | some a => simpa [Sem.run_bind] using h
    | none => simp [Sem.run_bind, Result.andThen, stuck] at h
  | _ => simp [Sem.run_bind, Result.andThen, stuck] at h

theorem resVal_rel {C : Cx} {l : List SV} {vs : List Value} (h : SV.rels C l vs) : (resVal l).rel C (if h : vs.toArray.size = 1 then vs.toArray[0] else .tuple vs.toArray) := by
  match l, vs, h with
  | [], vs, h =>
    obtain rfl : vs = [] := h
    exact ⟨[], rfl, rfl⟩
  | [s], vs, h =>
    obtain ⟨v, r, rfl, h1, h2⟩ := h
    obtain rfl : r = [] := h2
    exact h1
  | s :: s' :: l, vs, h =>
    have hh := h
    obtain ⟨v, r, rfl, h1, v', r', rfl, h2, h3⟩ := h
    exact ⟨_, by simp, hh⟩

section
variable {E : Env} {H : Hints} {B : Base} {ρ : Nat → Value} {st : St} {a : Act} {fs : List (Array Value)} {w : World}

theorem push_rel (h : StRel B ρ st a fs w) {args : List SV} {vs : List Value} (hr : SV.rels (cx B ρ st.hp w) args vs) {n : Nat} (hn : args.length ≤ n) :
    StRel B ρ (st.push n args) { tmps := vs.toArray ++ Array.replicate (n - vs.toArray.size) undef, defers := [] } (a.tmps :: fs) w := by
  have hl := rels_length hr
  refine ⟨h.h, ⟨?_, fun i s hs => ?_⟩, (fun t b hb => by cases hb), ⟨a.tmps, fs, rfl, ⟨rfl, fun i s hs => ?_⟩, h.k⟩, rfl⟩
  · simp [St.push]; omega
  · obtain ⟨_, h2⟩ := lookup_enumFrom args 0 i s hs
    obtain ⟨v, hv, hrel⟩ := rels_get hr h2
    have hi := (List.getElem?_eq_some_iff.1 hv).1
    simp only [Nat.sub_zero] at hv hi
    refine ⟨by show i < n; omega, ?_⟩
    rw [Array.getD_eq_getD_getElem?, Array.getElem?_append_left (by simpa using hi)]
    simp only [List.getElem?_toArray, hv, Option.getD_some]
    exact hrel
  · have := h.s.2 i s hs
    rw [h.s.1]
    exact this

theorem pop_rel {st' st'' : St} {a' : Act} {ρ' : Nat → Value} {w' : World} (h : StRel B ρ st a fs w) (hp : st.pop st' = some st'') (h' : StRel B ρ' st' a' (a.tmps :: fs) w') : StRel B ρ' st'' a fs w' := by
  unfold St.pop at hp
  split at hp
  · rename_i sl r e
    cases hp
    have hk := h'.k
    rw [e] at hk
    obtain ⟨t, rr, e2, h1, h2⟩ := hk
    cases e2
    exact ⟨h'.h, by rw [← h.s.1]; exact h1, h.kn, h2, h.d⟩
  · cases hp

theorem resSV_rel (hE : E.toTy.Ok) : ∀ {rs : List ResultVar} {o : List Prop} {l : List SV}, resSV E.toTy st rs = some (o, l) → StRel B ρ st a fs w → (∀ p ∈ o, p) →
    ∃ vs, (rs.mapM (resF a.tmps)).run E.P w = .ok vs w ∧ SV.rels (cx B ρ st.hp w) l vs
  | [], o, l, h, hr, ho => by
    simp only [resSV, Option.some.injEq, Prod.mk.injEq] at h
    obtain ⟨rfl, rfl⟩ := h
    exact ⟨[], rfl, rfl⟩
  | .tmp t :: rs, o, l, h, hr, ho => by
    simp only [resSV] at h
    split at h
    · rename_i o' r e
      cases h
      obtain ⟨vs, h1, h2⟩ := resSV_rel hE e hr ho
      refine ⟨a.tmps.getD t undef :: vs, ?_, _, _, rfl, ev_rel hr (.tmp t), h2⟩
      simp only [List.mapM_cons, resF, Sem.run_bind, Sem.run_pure, Result.andThen_ok, h1]
    · cases h
  | .cell b t :: rs, o, l, h, hr, ho => by
    simp only [resSV] at h
    split at h
    · rename_i p s o' r e0 e
      cases h
      obtain ⟨vs, h1, h2⟩ := resSV_rel hE e hr (fun q hq => ho q (List.mem_append_right _ hq))
      obtain ⟨v', h3, h4⟩ := load_sound hE hr e0 (ev_rel hr (.tmp b))
      refine ⟨v' :: vs, ?_, _, _, rfl, h4, h2⟩
      have hl : (resF a.tmps (.cell b t)).run E.P w = .ok v' w := loadAt_ok h3
      simp only [List.mapM_cons, Sem.run_bind, hl, Result.andThen_ok, h1, Sem.run_pure]
    · cases h

theorem callOk_fn (hE : E.Ok) {f : Nat} {fn : Func} {body : Code} (hf : E.P.funcs[f]? = some fn) (hn : (fn.name == "runtime.NumGoroutine") = false) (hb : fn.body = some body) :
    CallOk E.P f (vcFn E H fn.ntmps fn.results.toList body) := by
  refine ⟨fun args w => ?_, fun args st kv kp B ρ a fs w vs hc h hr => ?_⟩
  · unfold callFunc
    have hn' : ¬ fn.name = "runtime.NumGoroutine" := by simpa using hn
    simp [Sem.run_bind, hf, hn', hb]
  · unfold vcFn at hc
    split at hc
    · rename_i hlen
      refine calls_of_wp hf hb (Code.wp_mono (fun e a' w' hq => ?_) (vcCode_sound hE body hc (push_rel h hr hlen)))
      have ret : ∀ {st' : St} {ρ' : Nat → Value}, (match resSV E.toTy st' fn.results.toList, st.pop st' with
        | some (o, l), some st'' => conj o (kv (resVal l) st'')
        | _, _ => False) → StRel B ρ' st' a' (a.tmps :: fs) w' → a'.defers = [] ∧ ∃ v, (results fn a'.tmps).run E.P w' = .ok v w' ∧ CallPost B a fs kv kp (.returned v) w' := by
        intro st' ρ' hk hr'
        refine ⟨hr'.d, ?_⟩
        split at hk
        · rename_i o l st'' e1 e2
          obtain ⟨ho, hk⟩ := conj_all hk
          obtain ⟨vs', h1, h2⟩ := resSV_rel hE.ty e1 hr' ho
          have h3 := pop_rel h e2 hr'
          have hhp : st''.hp = st'.hp := by
            unfold St.pop at e2
            split at e2
            · cases e2; rfl
            · cases e2
          have hres : (results fn a'.tmps).run E.P w' = .ok (if h : vs'.toArray.size = 1 then vs'.toArray[0] else .tuple vs'.toArray) w' := by
            have e : results fn a'.tmps = (do let vs ← fn.results.mapM (resF a'.tmps); pure (if h : vs.size = 1 then vs[0] else .tuple vs)) := by
              unfold results
              congr 1
            rw [e, Array.mapM_eq_mapM_toList]
            simp only [Sem.run_bind, Sem.run_map, h1, Result.andThen_ok, Sem.run_pure]
          refine ⟨_, hres, resVal l, st'', ρ', hk, h3, ?_⟩
          rw [hhp]
          exact resVal_rel h2
        · exact hk.elim
      cases e with
      | normal => obtain ⟨st', ρ', h1, h2⟩ := hq; exact ret h1 h2
      | ret => obtain ⟨st', ρ', h1, h2⟩ := hq; exact ret h1 h2
      | panic ch =>
        obtain ⟨v, s, st', ρ', rfl, h1, h2, h3⟩ := hq
        refine ⟨h2.d, v, s, ?_⟩
        simp only at h1
        split at h1
        · rename_i st'' e2
          have hhp : st''.hp = st'.hp := by
            unfold St.pop at e2
            split at e2
            · cases e2; rfl
            · cases e2
          exact ⟨st'', ρ', rfl, h1, pop_rel h e2 h2, by rw [hhp]; exact h3⟩
        · exact h1.elim
      | exit id => obtain ⟨st', ρ', h1, h2⟩ := hq; exact h1.elim
      | goto l => exact hq.elim
      | outgrown => exact hq.elim
    · exact hc.elim
end
end Go.Vc
