/- A function's body: walked at the place of its call. -/
import Derived.Test.YtkdffofjnjamlaaDoorZVcRun
set_option linter.unusedVariables false
set_option linter.unusedSimpArgs false
namespace Go.Vc
open Go.RowKit

def enumFrom : Nat → List SV → Slots
  | _, [] => []
  | i, s :: l => (i, s) :: enumFrom (i + 1) l

def St.push (st : St) (n : Nat) (args : List SV) : St := { n := n, sl := enumFrom 0 args, kn := [], stk := (st.sl, st.df) :: st.stk, hp := st.hp, df := [], ls := st.ls, gl := st.gl }

def St.pop (st0 st : St) : Option St :=
  match st.stk with
  | (sl, df) :: r => some { n := st0.n, sl := sl, kn := st0.kn, stk := r, hp := st.hp, df := df, ls := st.ls, gl := st.gl }
  | [] => none

/-- What a function gives back. -/
def resSV (E : Ty) (st : St) : List ResultVar → Option (List Prop × List SV)
  | [] => some ([], [])
  | .tmp t :: l => match resSV E st l with
    | some (o, r) => some (o, st.ev (.tmp t) :: r)
    | none => none
  | .cell a t :: l => match st.load E t (st.ev (.tmp a)), resSV E st l with
    | some (p, s), some (o, r) => some (p ++ o, s :: r)
    | _, _ => none

def resVal : List SV → SV
  | [s] => s
  | l => .tup l

/-- The deferred calls, as a frame is left. -/
def vcLeave (E : Env) : Nat → St → Option SV → (St → Option SV → Prop) → Prop
  | 0, st, p, K => match st.df with
    | [] => K st p
    | _ => False
  | n + 1, st, p, K => match st.df with
    | [] => K st p
    | .mark m :: l => match st.hp[m]? with
      | some (some .dfr) => vcLeave E n { st with hp := st.hp.set m none, df := l } p K
      | _ => False
    | .fn f cap :: l => match E.dfs f with
      | some d => d cap { st with df := l } p (fun st' p' => vcLeave E n st' p' K)
      | none => False

def vcOut (E : Env) (rs : List ResultVar) (st0 : St) (kv kp : SV → St → Prop) (st' : St) (p : Option SV) : Prop :=
  match p, st0.pop st' with
  | none, some st'' => match resSV E.toTy st' rs with
    | some (o, l) => conj o (kv (resVal l) st'')
    | none => False
  | some s, some st'' => kp s st''
  | _, none => False

def vcFn (E : Env) (H : Hints) (n : Nat) (rs : List ResultVar) (body : Code) : CallSem := fun args st kv kp =>
  if args.length ≤ n then
    vcCode H body E (st.push n args) fun e st' => match e with
      | .normal => vcLeave E st'.df.length st' none (vcOut E rs st kv kp)
      | .ret => vcLeave E st'.df.length st' none (vcOut E rs st kv kp)
      | .pan s => vcLeave E st'.df.length st' (some s) (vcOut E rs st kv kp)
      | .exit _ => False
  else False

/-- A function that is ranged over. -/
def vcSeq (E : Env) (H : Hints) (n : Nat) (rs : List ResultVar) (body : Code) : CallSem → CallSem := fun h => vcFn { E with yld := some h } H n rs body

/-- A deferred function: what stands ahead of its first branch asks for the panic. -/
def isRecover (o : Oper) : Bool :=
  match o.op, o.guard with
  | .call c, none => (match c.callee with | .builtin .recover => true | _ => false) && c.args.isEmpty
  | _, _ => false

def recSV : Option SV → SV
  | some s => s
  | none => .cst .nilIface

def vcRec (H : Hints) : Code → Env → St → Option SV → (Ex → St → Prop) → Prop
  | .seq x y, E, st, p, k => vcRec H x E st p fun e st' => match e with
    | .normal => vcCode H y E st' k
    | _ => False
  | .region _ ops false, E, st, p, k => match ops.toList with
    | o :: rest => if isRecover o then st.setK o.dst (recSV p) fun st1 => vcStill E rest st1 fun st2 => k .normal (st2.trim E.keep) else False
    | [] => False
  | _, _, _, _, _ => False

def vcDef (E : Env) (H : Hints) (n : Nat) (rs : List ResultVar) (body : Code) : DefSem := fun cap st p K =>
  if cap.length ≤ n then
    vcRec H body E (st.push n cap) p fun e st' => match e with
      | .normal => match st'.df, st.pop st', rs with
        | [], some st'', [] => K st'' none
        | _, _, _ => False
      | .ret => match st'.df, st.pop st', rs with
        | [], some st'', [] => K st'' none
        | _, _, _ => False
      | _ => False
  else False

theorem lookup_enumFrom : ∀ (l : List SV) (k i : Nat) (s : SV), (enumFrom k l).lookup i = some s → k ≤ i ∧ l[i - k]? = some s
  | [], _, _, _, h => by cases h
  | t :: l, k, i, s, h => by
    simp only [enumFrom] at h
    rw [lookup_cons] at h
    split at h
    · rename_i e
      cases h
      subst e
      simp
    · rename_i e
      obtain ⟨h1, h2⟩ := lookup_enumFrom l (k + 1) i s h
      refine ⟨by omega, ?_⟩
      rw [show i - k = (i - (k + 1)) + 1 by omega, List.getElem?_cons_succ]
      exact h2

def resF (tmps : Array Value) : ResultVar → Sem Value
  | .tmp t => pure (tmps.getD t undef)
  | .cell a t => do loadVar t (← asAddr (tmps.getD a undef))

theorem loadAt_ok {P : Program} {t : Nat} {v v' : Value} {w : World} (h : (Instr.loadAt t v).run P w = .ok v' w) : (do loadVar t (← asAddr v) : Sem Value).run P w = .ok v' w := by
  unfold Instr.loadAt Instr.sureAddr at h
  unfold asAddr
  cases v with
  | pointer a =>
    cases a with
    | some a => simpa [Sem.run_bind] using h
    | none => simp [Sem.run_bind, Result.andThen, stuck] at h
  | _ => simp [Sem.run_bind, Result.andThen, stuck] at h

theorem resVal_rel {C : Cx} {l : List SV} {vs : List Value} (h : SV.rels C l vs) : (resVal l).rel C (if h : vs.toArray.size = 1 then vs.toArray[0] else .tuple vs.toArray) := by
  match l, vs, h with
  | [], vs, h =>
    obtain rfl : vs = [] := h
    exact ⟨[], rfl, rfl⟩
  | [s], vs, h =>
    obtain ⟨v, r, rfl, h1, h2⟩ := h
    obtain rfl : r = [] := h2
    exact h1
  | s :: s' :: l, vs, h =>
    have hh := h
    obtain ⟨v, r, rfl, h1, v', r', rfl, h2, h3⟩ := h
    exact ⟨_, by simp, hh⟩

section
variable {E : Env} {gl : Gl} {H : Hints} {B : Base} {ρ : Nat → Value} {st : St} {a : Act} {fs : List Act} {w : World}

theorem push_rel (h : StRel B ρ st a fs w) {args : List SV} {vs : List Value} (hr : SV.rels (cx B ρ st.hp w) args vs) {n : Nat} (hn : args.length ≤ n) :
    StRel B ρ (st.push n args) { tmps := vs.toArray ++ Array.replicate (n - vs.toArray.size) undef, defers := [] } (a :: fs) w := by
  have hl := rels_length hr
  refine ⟨h.h, ⟨?_, fun i s hs => ?_⟩, (fun t b hb => by cases hb), ⟨a, fs, rfl, ⟨rfl, fun i s hs => ?_⟩, h.d, h.k⟩, rfl, h.g⟩
  · simp [St.push]; omega
  · obtain ⟨_, h2⟩ := lookup_enumFrom args 0 i s hs
    obtain ⟨v, hv, hrel⟩ := rels_get hr h2
    have hi := (List.getElem?_eq_some_iff.1 hv).1
    simp only [Nat.sub_zero] at hv hi
    refine ⟨by show i < n; omega, ?_⟩
    rw [Array.getD_eq_getD_getElem?, Array.getElem?_append_left (by simpa using hi)]
    simp only [List.getElem?_toArray, hv, Option.getD_some]
    exact hrel
  · have := h.s.2 i s hs
    rw [h.s.1]
    exact this

theorem pop_rel {st' st'' : St} {a' : Act} {ρ' : Nat → Value} {w' : World} (h : StRel B ρ st a fs w) (hp : st.pop st' = some st'') (h' : StRel B ρ' st' a' (a :: fs) w') : StRel B ρ' st'' a fs w' := by
  unfold St.pop at hp
  split at hp
  · rename_i sl df r e
    cases hp
    have hk := h'.k
    rw [e] at hk
    obtain ⟨t, rr, e2, h1, h3, h2⟩ := hk
    cases e2
    exact ⟨h'.h, by rw [← h.s.1]; exact h1, h.kn, h2, h3, h'.g⟩
  · cases hp

theorem resSV_rel (hE : E.toTy.Ok) : ∀ {rs : List ResultVar} {o : List Prop} {l : List SV}, resSV E.toTy st rs = some (o, l) → StRel B ρ st a fs w → (∀ p ∈ o, p) →
    ∃ vs, (rs.mapM (resF a.tmps)).run E.P w = .ok vs w ∧ SV.rels (cx B ρ st.hp w) l vs
  | [], o, l, h, hr, ho => by
    simp only [resSV, Option.some.injEq, Prod.mk.injEq] at h
    obtain ⟨rfl, rfl⟩ := h
    exact ⟨[], rfl, rfl⟩
  | .tmp t :: rs, o, l, h, hr, ho => by
    simp only [resSV] at h
    split at h
    · rename_i o' r e
      cases h
      obtain ⟨vs, h1, h2⟩ := resSV_rel hE e hr ho
      refine ⟨a.tmps.getD t undef :: vs, ?_, _, _, rfl, ev_rel hr (.tmp t), h2⟩
      simp only [List.mapM_cons, resF, Sem.run_bind, Sem.run_pure, Result.andThen_ok, h1]
    · cases h
  | .cell b t :: rs, o, l, h, hr, ho => by
    simp only [resSV] at h
    split at h
    · rename_i p s o' r e0 e
      cases h
      obtain ⟨vs, h1, h2⟩ := resSV_rel hE e hr (fun q hq => ho q (List.mem_append_right _ hq))
      obtain ⟨v', h3, h4⟩ := load_sound hE hr e0 (ev_rel hr (.tmp b))
      refine ⟨v' :: vs, ?_, _, _, rfl, h4, h2⟩
      have hl : (resF a.tmps (.cell b t)).run E.P w = .ok v' w := loadAt_ok h3
      simp only [List.mapM_cons, Sem.run_bind, hl, Result.andThen_ok, h1, Sem.run_pure]
    · cases h

theorem pop_hp {st' st'' : St} (e : st.pop st' = some st'') : st''.hp = st'.hp := by
  unfold St.pop at e
  split at e
  · cases e; rfl
  · cases e

theorem ORel.le {C C' : Cx} (h : C.le C') {p : Option SV} {o : Option Value} (hr : ORel C p o) : ORel C' p o := by
  cases p with
  | none => exact hr
  | some s => obtain ⟨v, e, h1⟩ := hr; exact ⟨v, e, h1.le h⟩

/-- An object is gone, its block turned. -/
theorem StRel.kill (h : StRel B ρ st a fs w) {m b : Nat} {o : Ob} (ho : st.hp[m]? = some (some o)) (hb : ρ m = .pointer (some ⟨b, 0, none⟩)) (x : Obj) :
    StRel B ρ { st with hp := st.hp.set m none } a fs (w.putObj b x) ∧ (cx B ρ st.hp w).le (cx B ρ (st.hp.set m none) (w.putObj b x)) := by
  have hlt := (List.getElem?_eq_some_iff.1 ho).1
  have hdead : ¬ live (st.hp.set m none) m := by
    rintro ⟨o2, ho2⟩
    rw [List.getElem?_set_self hlt] at ho2
    cases ho2
  have T : Turn B ρ ρ st.hp (st.hp.set m none) w (w.putObj b x) m (some b) := {
    N := by simp
    rho := fun _ _ => rfl
    other := fun m' o' hm ho' => by rwa [List.getElem?_set_ne (Ne.symm hm)] at ho'
    mod := fun c hc => by cases hc; exact ⟨m, ⟨o, ho⟩, by rw [hb]; rfl, .inl rfl⟩
    gw := ⟨rfl, rfl, rfl, by simp, fun k hk hne => World.putObj_heap_other (fun e => hne (by rw [e]))⟩
    bl := fun c hc _ => absurd hc hdead }
  exact ⟨h.turn T (fun o' ho' => absurd ⟨o', ho'⟩ hdead), T.le⟩

theorem modeOf_ne (o : Option Value) : modeOf o ≠ .run := by cases o <;> simp [modeOf]

theorem callsDIn_mono {F : Fence} {n : Nat} {P : Program} {f : FuncId} {args : Array Value} {u : FrameMode} {w : World} {R R' : Ending → FrameMode → World → Prop}
    (h : CallsDIn F n P f args u w R) (hr : ∀ e u' w', R e u' w' → R' e u' w') : CallsDIn F n P f args u w R' :=
  ⟨h.1, fun c cs hu hroom => let ⟨e, u', w', fr, r, rest⟩ := h.2 c cs hu hroom; ⟨e, u', w', fr, hr _ _ _ r, rest⟩⟩

theorem leave_sound (hE : E.Ok gl) (hB : B.gl = gl) {fn : Func} {R : Ending → World → Prop} {K : St → Option SV → Prop} {tmps : Array Value}
    (hK : ∀ st p ρ w o, K st p → StRel B ρ st { tmps := tmps, defers := [] } fs w → ORel (cx B ρ st.hp w) p o → (match o with
      | none => ∃ v, (results fn tmps).run E.P w = .ok v w ∧ R (.returned v) w
      | some v => R (.panicked [{ v := v, recovered := false }]) w)) :
    ∀ (n : Nat) {st : St} {p : Option SV} {ρ : Nat → Value} {ds : List Deferred} {w : World} {o : Option Value}, vcLeave E n st p K → StRel B ρ st { tmps := tmps, defers := ds } fs w → ORel (cx B ρ st.hp w) p o →
      LeavesInM Fence.wide 0 E.P fn tmps R ds (modeOf o) w := by
  have nil : ∀ {st : St} {p : Option SV} {ρ : Nat → Value} {ds : List Deferred} {w : World} {o : Option Value}, st.df = [] → K st p → StRel B ρ st { tmps := tmps, defers := ds } fs w → ORel (cx B ρ st.hp w) p o →
      LeavesInM Fence.wide 0 E.P fn tmps R ds (modeOf o) w := by
    intro st p ρ ds w o e hk h ho
    have hd := h.d
    rw [e] at hd
    have hd : ds = [] := hd
    subst hd
    have := hK st p ρ w o hk h ho
    cases o with
    | none => exact this
    | some v => exact this
  intro n
  induction n with
  | zero =>
    intro st p ρ ds w o hk h ho
    unfold vcLeave at hk
    split at hk
    · rename_i e; exact nil e hk h ho
    · exact hk.elim
  | succ n ih =>
    intro st p ρ ds w o hk h ho
    unfold vcLeave at hk
    split at hk
    · rename_i e; exact nil e hk h ho
    · rename_i m l e
      split at hk
      · rename_i hm
        have hd := h.d
        rw [e] at hd
        obtain ⟨b, r, e1, hlt, hρ, hd2⟩ := hd
        have e1 : ds = _ := e1
        subst e1
        have hρ : ρ m = _ := hρ
        obtain ⟨b', hb', hbk⟩ := h.h.obj m _ hm
        rw [hρ] at hb'
        cases hb'
        obtain ⟨h1, h2⟩ := h.kill hm hρ (.deferred none)
        refine ⟨modeOf_ne o, .inl ⟨b, _, rfl, run_takeDeferred hbk, ?_⟩⟩
        exact ih hk ⟨h1.h, h1.s, h1.kn, h1.k, hd2.le h2, h1.g⟩ (ho.le h2)
      · exact hk.elim
    · rename_i f cap l e
      split at hk
      · rename_i d hf
        have hd := h.d
        rw [e] at hd
        obtain ⟨vs, r, e1, hcr, hd2⟩ := hd
        have e1 : ds = _ := e1
        subst e1
        obtain ⟨henter, hcall⟩ := hE.df f d hf
        have h' : StRel B ρ { st with df := l } { tmps := tmps, defers := r } fs w := ⟨h.h, h.s, h.kn, h.k, hd2, h.g⟩
        refine ⟨modeOf_ne o, .inr ⟨fun h => (by cases h), .func f, vs.toArray, f, vs.toArray, rfl, ?_, fun _ _ => trivial, ?_⟩⟩
        · simp only [invoke]
          rw [henter]
          congr 2
          simp
        · refine callsDIn_mono (hcall _ _ _ _ B ρ _ fs w vs o hB hk h' hcr ho) (fun en u w' hw => ?_)
          cases en with
          | returned v =>
            obtain ⟨st', p', ρ', o', h1, h2, h3, h4⟩ := hw
            dsimp only
            rw [h4]
            exact ih h1 h2 h3
          | panicked ch => exact hw.elim
          | outgrown => exact hw.elim
      · exact hk.elim

theorem fn_sound (hE : E.Ok gl) {f : Nat} {fn : Func} {body : Code} (hf : E.P.funcs[f]? = some fn) (hb : fn.body = some body) (hrnd : E.rnd = false) (hB : B.gl = gl) (hy : ∀ hd, E.yld = some hd → YieldOk E.P B (a :: fs) hd)
    {args : List SV} {vs : List Value} {kv kp : SV → St → Prop} (hc : vcFn E H fn.ntmps fn.results.toList body args st kv kp) (h : StRel B ρ st a fs w) (hr : SV.rels (cx B ρ st.hp w) args vs) : Calls E.P f vs.toArray w (CallPost B a fs kv kp) := by
  unfold vcFn at hc
  split at hc
  · rename_i hlen
    refine callsIn_wide.1 (callsIn_of_wp_marks (F := Fence.wide) (n := 0) hf hb trivial (wpIn_mono (vcCode_sound body hE hB hy (r := none) (fun _ => rfl) hc (push_rel h hr hlen)) (fun e a' w' hq => ?_)))
    have out : ∀ {st' : St} {p : Option SV} {ρ' : Nat → Value} {w' : World} {o : Option Value}, vcOut E fn.results.toList st kv kp st' p → StRel B ρ' st' { tmps := a'.tmps, defers := [] } (a :: fs) w' → ORel (cx B ρ' st'.hp w') p o → (match o with
        | none => ∃ v, (results fn a'.tmps).run E.P w' = .ok v w' ∧ CallPost B a fs kv kp (.returned v) w'
        | some v => CallPost B a fs kv kp (.panicked [{ v := v, recovered := false }]) w') := by
      intro st' p ρ' w' o hk hr' ho
      unfold vcOut at hk
      split at hk
      · rename_i st'' e2
        have ho : o = none := ho
        subst ho
        split at hk
        · rename_i o l e1
          obtain ⟨ho, hk⟩ := conj_all hk
          obtain ⟨vs', h1, h2⟩ := resSV_rel hE.ty e1 hr' ho
          have h3 := pop_rel h e2 hr'
          have hres : (results fn a'.tmps).run E.P w' = .ok (if h : vs'.toArray.size = 1 then vs'.toArray[0] else .tuple vs'.toArray) w' := by
            have e : results fn a'.tmps = (do let vs ← fn.results.mapM (resF a'.tmps); pure (if h : vs.size = 1 then vs[0] else .tuple vs)) := by
              unfold results
              congr 1
            rw [e, Array.mapM_eq_mapM_toList]
            simp only [Sem.run_bind, Sem.run_map, h1, Result.andThen_ok, Sem.run_pure]
          refine ⟨_, hres, resVal l, st'', ρ', hk, h3, ?_⟩
          rw [pop_hp e2]
          exact resVal_rel h2
        · exact hk.elim
      · rename_i s st'' e2
        obtain ⟨v, rfl, hv⟩ := ho
        exact ⟨v, s, st'', ρ', rfl, hk, pop_rel h e2 hr', by rw [pop_hp e2]; exact hv⟩
      · exact hk.elim
    have leave : ∀ {st' : St} {p : Option SV} {ρ' : Nat → Value} {o : Option Value}, vcLeave E st'.df.length st' p (vcOut E fn.results.toList st kv kp) → StRel B ρ' st' a' (a :: fs) w' → ORel (cx B ρ' st'.hp w') p o →
        LeavesInM Fence.wide 0 E.P fn a'.tmps (CallPost B a fs kv kp) a'.defers (modeOf o) w' := fun hk hr' ho =>
      leave_sound hE hB (fun _ _ _ _ _ h1 h2 h3 => out h1 h2 h3) _ hk hr' ho
    cases e with
    | normal => obtain ⟨st', ρ', h1, h2⟩ := hq; exact leave (o := none) h1 h2 rfl
    | ret => obtain ⟨st', ρ', h1, h2⟩ := hq; exact leave (o := none) h1 h2 rfl
    | panic ch => obtain ⟨v, s, st', ρ', rfl, h1, h2, h3⟩ := hq; exact leave (o := some v) h1 h2 ⟨v, rfl, h3⟩
    | exit id => obtain ⟨st', ρ', h1, h2⟩ := hq; exact h1.elim
    | goto l => exact hq.elim
    | outgrown => exact hq.elim
  · exact hc.elim

theorem fn_enter {P : Program} {f : Nat} {fn : Func} {body : Code} (hf : P.funcs[f]? = some fn) (hn : (fn.name == "runtime.NumGoroutine") = false) (hb : fn.body = some body) (args : Array Value) (w : World) : (callFunc f args).run P w = .ok (.enter f args) w := by
  unfold callFunc
  have hn' : ¬ fn.name = "runtime.NumGoroutine" := by simpa using hn
  simp [Sem.run_bind, hf, hn', hb]

theorem callOk_fn (hE : E.Ok gl) {f : Nat} {fn : Func} {body : Code} (hf : E.P.funcs[f]? = some fn) (hn : (fn.name == "runtime.NumGoroutine") = false) (hb : fn.body = some body) (hq : E.yld.isNone = true) (hrnd : E.rnd = false) :
    CallOk E.P gl f (vcFn E H fn.ntmps fn.results.toList body) := fun args st kv kp B ρ a fs w vs hB hc h hr =>
  .inl ⟨fn_enter hf hn hb _ _, fn_sound hE hf hb hrnd hB (fun hd e => by rw [e] at hq; cases hq) hc h hr⟩

theorem seqOk_fn (hE : E.Ok gl) {f : Nat} {fn : Func} {body : Code} (hf : E.P.funcs[f]? = some fn) (hn : (fn.name == "runtime.NumGoroutine") = false) (hb : fn.body = some body) (hrnd : E.rnd = false) :
    SeqOk E.P gl f (vcSeq E H fn.ntmps fn.results.toList body) :=
  ⟨fn_enter hf hn hb, fun hh args st kv kp B ρ a fs w vs hB hy hc h hr =>
    fn_sound (E := { E with yld := some hh }) ⟨hE.ty, hE.fn, hE.seq, hE.df, hE.mixed⟩ hf hb hrnd hB (fun hd e => by cases e; exact hy) hc h hr⟩

/-! ### Deferred functions -/
theorem still_ops (hE : E.Ok gl) {ops : Array Oper} {Q : Exit → Act → List Frame → World → Prop} {cs : List Frame} {k : St → Prop} : ∀ (l : List Oper) (i : Nat) {ρ : Nat → Value} {st : St} {a : Act}, (∀ j, l[j]? = ops[i + j]?) → vcStill E l st k → StRel B ρ st a fs w →
    (∀ st' ρ' a', k st' → StRel B ρ' st' a' fs w → Q .normal a' cs w) → wpOpsSIn Fence.wide 0 E.P ops Q (List.range' i l.length) a cs w
  | [], _, ρ, st, a, _, hk, h, hn => hn st ρ a hk h
  | o :: l, i, ρ, st, a, hl, hk, h, hn => by
    have h0 : ops[i]? = some o := by simpa using (hl 0).symm
    have hl' : ∀ j, l[j]? = ops[i + 1 + j]? := fun j => by have := hl (j + 1); simpa [Nat.add_assoc, Nat.add_comm 1 j] using this
    simp only [List.length_cons, List.range'_succ, wpOpsSIn, h0]
    refine ⟨fun _ _ => trivial, ?_⟩
    simp only [vcStill] at hk
    split at hk
    · rename_i obs s hg hop
      obtain ⟨h1, h2⟩ := conj_all hk
      obtain ⟨v, h3, h4⟩ := op1_sound hE.ty h hop h1
      obtain ⟨st2, h5, h6⟩ := setK_sound h2 h h4
      rw [if_pos (by simp [Region.wanted, hg]), h3]
      exact still_ops hE l (i + 1) hl' h5 h6 hn
    · exact hk.elim

/-- The frames below, as the panic is asked for. -/
def caught (c₀ : Frame) : Option Value → Frame
  | none => c₀
  | some v => { c₀ with mode := .panicking [{ v := v, recovered := true }] }

theorem recover_of (c₀ : Frame) (cs : List Frame) (o : Option Value) (h : c₀.mode = modeOf o) : recoverD (c₀ :: cs) = o.map fun v => (v, caught c₀ o :: cs) := by
  cases o with
  | none => simp [recoverD, h, modeOf]
  | some v => simp [recoverD, h, modeOf, caught]

theorem rec_sound (hE : E.Ok gl) (hB : B.gl = gl) (hrnd : E.rnd = false) (hyn : E.yld.isNone = true) {c₀ : Frame} {cs : List Frame} {o : Option Value} (hc0 : c₀.mode = modeOf o) :
    ∀ (c : Code) {st : St} {p : Option SV} {k : Ex → St → Prop} {ρ : Nat → Value} {a : Act} {w : World}, vcRec H c E st p k → StRel B ρ st a fs w → ORel (cx B ρ st.hp w) p o →
      c.wpSIn Fence.wide 0 E.P (fun e a' cs' w' => cs' = caught c₀ o :: cs ∧ CPost B fs k e a' w') a (c₀ :: cs) w := by
  intro c
  induction c with
  | seq x y ihx ihy =>
    intro st p k ρ a w hk h ho
    simp only [vcRec] at hk
    refine wpSIn_seq ?_
    intro b kk hb hr hF hroom
    obtain ⟨e, a', cs', w', hl, ⟨rfl, hq⟩, harr⟩ := ihx hk h ho b kk hb hr hF hroom
    refine ⟨e, a', _, w', hl, ?_, harr⟩
    cases e with
    | normal =>
      obtain ⟨st', ρ', h1, h2⟩ := hq
      exact wpSIn_of_wpIn rfl (wpIn_mono (vcCode_sound y hE hB (fun hd e => by rw [e] at hyn; cases hyn) (r := none) (fun _ => rfl) h1 h2) (fun e a' w' hq => ⟨rfl, hq⟩))
    | exit id => obtain ⟨st', ρ', h1, h2⟩ := hq; exact h1.elim
    | ret => obtain ⟨st', ρ', h1, h2⟩ := hq; exact h1.elim
    | panic ch => obtain ⟨_, _, _, _, _, h1, _⟩ := hq; exact h1.elim
    | goto l => exact hq.elim
    | outgrown => exact hq.elim
  | region id ops draw =>
    intro st p k ρ a w hk h ho
    cases draw with
    | true => simp only [vcRec] at hk
    | false =>
      simp only [vcRec] at hk
      split at hk
      · rename_i o1 rest hops
        split at hk
        · rename_i hrec
          unfold isRecover at hrec
          split at hrec
          · rename_i c1 hop hg
            simp only [Bool.and_eq_true] at hrec
            obtain ⟨hcal, hargs⟩ := hrec
            have hcal : c1.callee = .builtin .recover := by
              split at hcal
              · assumption
              · cases hcal
            have hargs : c1.args = #[] := by simpa using hargs
            refine wpSIn_region ?_
            have h0 : ops[0]? = some o1 := by
              have : ops.toList[0]? = some o1 := by rw [hops]; rfl
              simpa using this
            have hsz : ops.size = rest.length + 1 := by
              have := congrArg List.length hops
              simpa using this
            have hrun : (execOp a.eval o1).run E.P w = .ok .recover w := by
              unfold execOp
              rw [hop]
              simp [resolve, hcal, hargs, invoke, builtin]
            rw [hsz, List.range_eq_range', List.range'_succ]
            simp only [wpOpsSIn, h0]
            refine ⟨fun _ _ => trivial, ?_⟩
            rw [if_pos (by simp [Region.wanted, hg]), hrun]
            simp only
            rw [recover_of c₀ cs o hc0]
            have tail : ∀ (v : Value), (recSV p).rel (cx B ρ st.hp w) v → wpOpsSIn Fence.wide 0 E.P ops (fun e a' cs' w' => cs' = caught c₀ o :: cs ∧ CPost B fs k e a' w') (List.range' (0 + 1) rest.length) (a.put o1.dst v) (caught c₀ o :: cs) w := by
              intro v hv
              obtain ⟨st2, h5, h6⟩ := setK_sound hk h hv
              refine still_ops hE rest 1 (fun j => ?_) h5 h6 (fun st' ρ' a' hs hr => ⟨rfl, _, _, hs, hr.trim _⟩)
              have : ops.toList[j + 1]? = rest[j]? := by rw [hops]; rfl
              rw [← this, Nat.add_comm 1 j]; simp
            cases o with
            | none =>
              simp only [Option.map_none]
              refine tail .nilIface ?_
              cases p with
              | none => exact rfl
              | some s => obtain ⟨v, e, _⟩ := ho; cases e
            | some v =>
              simp only [Option.map_some]
              refine tail v ?_
              cases p with
              | none => cases ho
              | some s => obtain ⟨v', e, hv⟩ := ho; cases e; exact hv
          · cases hrec
        · exact hk.elim
      · exact hk.elim
  | _ => intro st p k ρ a w hk h ho; simp only [vcRec] at hk

theorem defOk_fn (hE : E.Ok gl) {f : Nat} {fn : Func} {body : Code} (hf : E.P.funcs[f]? = some fn) (hn : (fn.name == "runtime.NumGoroutine") = false) (hb : fn.body = some body) (hq : E.yld.isNone = true) (hrnd : E.rnd = false) :
    DefOk E.P gl f (vcDef E H fn.ntmps fn.results.toList body) := by
  refine ⟨fn_enter hf hn hb, fun cap st p K B ρ a fs w vs o hB hc h hr ho => ?_⟩
  unfold vcDef at hc
  split at hc
  · rename_i hlen
    refine callsDIn_of_wpSIn hf hb trivial (fun c₀ cs hc0 => ?_)
    have hw := rec_sound hE hB hrnd hq (c₀ := c₀) (cs := cs) hc0 body hc (push_rel h hr hlen) (by exact ho)
    intro b kk hb' hr' hF hroom
    obtain ⟨e, a', cs', w', hl, ⟨rfl, hqq⟩, harr⟩ := hw b kk hb' hr' hF hroom
    refine ⟨e, a', _, w', hl, ?_, harr⟩
    have fin : ∀ {st' : St} {ρ' : Nat → Value}, (match st'.df, st.pop st', fn.results.toList with
        | [], some st'', [] => K st'' none
        | _, _, _ => False) → StRel B ρ' st' a' (a :: fs) w' → a'.defers = [] ∧ ∃ u', caught c₀ o :: cs = { c₀ with mode := u' } :: cs ∧ ∃ v, (results fn a'.tmps).run E.P w' = .ok v w' ∧ DefPost B a fs K (.returned v) u' w' := by
      intro st' ρ' hk hr2
      split at hk
      · rename_i st'' e1 e2 e3
        have hd := hr2.d
        rw [e1] at hd
        have hres : (results fn a'.tmps).run E.P w' = .ok (.tuple #[]) w' := by
          have e : fn.results = #[] := by apply Array.ext'; simpa using e3
          unfold results
          simp [e]
        refine ⟨hd, (caught c₀ o).mode, ?_, _, hres, st'', none, ρ', none, hk, pop_rel h e2 hr2, rfl, ?_⟩
        · cases o <;> rfl
        · cases o with
          | none => simp only [caught]; rw [hc0]; rfl
          | some v => simp [caught, settle, modeOf]
      · exact hk.elim
    cases e with
    | normal => obtain ⟨st', ρ', h1, h2⟩ := hqq; exact fin h1 h2
    | ret => obtain ⟨st', ρ', h1, h2⟩ := hqq; exact fin h1 h2
    | panic ch => obtain ⟨_, _, _, _, _, h1, _⟩ := hqq; exact h1.elim
    | exit id => obtain ⟨st', ρ', h1, h2⟩ := hqq; exact h1.elim
    | goto l => exact hqq.elim
    | outgrown => exact hqq.elim
  · exact hc.elim
end
end Go.Vc
