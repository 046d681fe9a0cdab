/- A round of a loop over a function. -/
import Derived.Test.YtkdffofjnjamlaaDoorZVcFit
set_option linter.unusedVariables false
set_option linter.unusedSimpArgs false
namespace Go.Vc
open Go.RowKit

/-! ### Values that are no yield -/
mutual
def SV.ny : SV → Bool
  | .yld => false
  | .fn _ c => SV.nyL c
  | .tup c => SV.nyL c
  | .agg c => SV.nyL c
  | .ifc _ s => SV.ny s
  | .gd _ s => SV.ny s
  | _ => true
def SV.nyL : List SV → Bool
  | [] => true
  | s :: l => SV.ny s && SV.nyL l
end

/-- One reading goes over into another, whatever loop there is. -/
structure Cx.le0 (C C' : Cx) : Prop where
  size : C.w.heap.size ≤ C'.w.heap.size
  same : ∀ b, b < C.w.heap.size → ¬ C.F b → C'.w.heap[b]? = C.w.heap[b]?
  F : ∀ b, b < C.w.heap.size → C'.F b → C.F b
  N : C.N ≤ C'.N
  ρ : ∀ n, n < C.N → C'.ρ n = C.ρ n

def Cx.wl (C : Cx) (l : Nat) : Cx := { C with lp := l }
theorem Cx.le0.le {C C' : Cx} (h : C.le0 C') : (C.wl C'.lp).le C' := ⟨h.size, h.same, h.F, h.N, h.ρ, rfl⟩

mutual
theorem SV.rel.wl {C : Cx} {l : Nat} : ∀ {s : SV} {v : Value}, s.ny = true → s.rel C v → s.rel (C.wl l) v
  | .dat _ _, _, _, h => h
  | .cst _, _, _, h => h
  | .own _, _, _, h => h
  | .sub _ _ _ _, _, _, h => h
  | .ptr _ _, _, _, h => h
  | .rptr _, _, _, h => h
  | .adr _ _, _, _, h => h
  | .oel _ _ _ _, _, _, h => h
  | .aar _ _, _, _, h => h
  | .junk, _, _, _ => trivial
  | .fn f c, v, hn, h => by obtain ⟨vs, e, h⟩ := h; exact ⟨vs, e, SV.rels.wl hn h⟩
  | .tup c, v, hn, h => by obtain ⟨vs, e, h⟩ := h; exact ⟨vs, e, SV.rels.wl hn h⟩
  | .agg c, v, hn, h => by obtain ⟨vs, e, h⟩ := h; exact ⟨vs, e, SV.rels.wl hn h⟩
  | .ifc t s, v, hn, h => by obtain ⟨u, e, h⟩ := h; exact ⟨u, e, SV.rel.wl hn h⟩
  | .gd p s, v, hn, h => ⟨fun hp => SV.rel.wl hn (h.1 hp), h.2⟩
  | .yld, _, hn, _ => by cases hn
theorem SV.rels.wl {C : Cx} {l : Nat} : ∀ {c : List SV} {vs : List Value}, SV.nyL c = true → SV.rels C c vs → SV.rels (C.wl l) c vs
  | [], _, _, h => h
  | s :: c, vs, hn, h => by
    simp only [SV.nyL, Bool.and_eq_true] at hn
    obtain ⟨v, r, e, h1, h2⟩ := h
    exact ⟨v, r, e, SV.rel.wl hn.1 h1, SV.rels.wl hn.2 h2⟩
end

def slNy (sl : Slots) : Bool := sl.all fun p => p.2.ny
def DE.ny : DE → Bool
  | .mark _ => true
  | .fn _ c => SV.nyL c
def Ob.ny : Ob → Bool
  | .var _ c => SV.nyL c
  | _ => true
def St.ny (st : St) : Bool := slNy st.sl && st.df.all DE.ny && (st.stk.all fun p => slNy p.1 && p.2.all DE.ny) && (st.hp.all fun o => match o with | some o => o.ny | none => true)

theorem DRel.wl {C : Cx} {l : Nat} : ∀ {d : List DE} {ds : List Deferred}, d.all DE.ny = true → DRel C d ds → DRel (C.wl l) d ds
  | [], _, _, h => h
  | .mark n :: d, ds, hn, h => by
    simp only [List.all_cons, Bool.and_eq_true] at hn
    obtain ⟨b, r, e, h1, h2, h3⟩ := h
    exact ⟨b, r, e, h1, h2, DRel.wl hn.2 h3⟩
  | .fn f c :: d, ds, hn, h => by
    simp only [List.all_cons, Bool.and_eq_true] at hn
    obtain ⟨vs, r, e, h1, h2⟩ := h
    exact ⟨vs, r, e, SV.rels.wl hn.1 h1, DRel.wl hn.2 h2⟩

theorem SlotsRel.wl {C : Cx} {l n : Nat} {sl : Slots} {t : Array Value} (hn : slNy sl = true) (h : SlotsRel C n sl t) : SlotsRel (C.wl l) n sl t :=
  ⟨h.1, fun i s hs => ⟨(h.2 i s hs).1, SV.rel.wl (by
    have := mk_lookup hs
    simp only [slNy, List.all_eq_true] at hn
    exact hn _ this) (h.2 i s hs).2⟩⟩

theorem StkRel.wl {C : Cx} {l : Nat} : ∀ {k : List (Slots × List DE)} {fs : List Act}, (k.all fun p => slNy p.1 && p.2.all DE.ny) = true → StkRel C k fs → StkRel (C.wl l) k fs
  | [], _, _, h => h
  | p :: k, fs, hn, h => by
    simp only [List.all_cons, Bool.and_eq_true] at hn
    obtain ⟨t, r, e, h1, h2, h3⟩ := h
    exact ⟨t, r, e, h1.wl hn.1.1, h2.wl hn.1.2, StkRel.wl (by simpa using hn.2) h3⟩

theorem Ob.rel.wl {C : Cx} {l : Nat} {o : Ob} {v : Value} (hn : o.ny = true) (h : o.rel C v) : o.rel (C.wl l) v := by
  cases o with
  | row e k xs => exact h
  | var t cs => obtain ⟨b, vs, e, h1, h2⟩ := h; exact ⟨b, vs, e, h1, SV.rels.wl hn h2⟩
  | siter s p => exact h
  | dfr => exact h

/-! ### The loop's record -/
def Jump.code : Jump → Code
  | .ret => .ret
  | .exit id => .exit id
def Loop.as (r : Loop) : LS → Loop
  | .no => r
  | .ready => { r with state := .ready, pending := none }
  | .busy => { r with state := .busy, pending := none }
  | .done j => { r with state := .done, pending := some j.code }

/-- A walk within a loop over a function. -/
structure InLoop (B : Base) (W1 : World) (r0 : Loop) : Prop where
  alt : ∀ ls, B.alt ls = W1.putObj B.lp (.loop (Loop.as r0 ls))
  lt : B.lp < W1.heap.size
  fb : B.Fb B.lp

section
variable {B : Base} {ρ : Nat → Value} {st : St} {a : Act} {fs : List Act} {w W1 : World} {r0 : Loop}

theorem StRel.rec_at (h : StRel B ρ st a fs w) (hl : InLoop B W1 r0) : w.heap[B.lp]? = some (.loop (Loop.as r0 st.ls)) := by
  have h1 := h.h.kept.block B.lp (by rw [hl.alt]; simpa using hl.lt) (h.h.fb _ hl.fb).2
  rw [h1, hl.alt]
  exact World.putObj_heap_same hl.lt

/-- The record is turned. -/
theorem StRel.turn_ls (h : StRel B ρ st a fs w) (hl : InLoop B W1 r0) (ls : LS) : StRel B ρ { st with ls := ls } a fs (w.putObj B.lp (.loop (Loop.as r0 ls))) := by
  have hat := h.rec_at hl
  have hlt := (Array.getElem?_eq_some_iff.1 hat).1
  have le : (cx B ρ st.hp w).le (cx B ρ st.hp (w.putObj B.lp (.loop (Loop.as r0 ls)))) := by
    refine ⟨by simp, fun b _ hF => World.putObj_heap_other (fun e => hF (.inl ?_)), fun _ _ h => h, Nat.le_refl _, fun _ _ => rfl, rfl⟩
    rw [e]; exact hl.fb
  refine ⟨⟨⟨?_, ?_, ?_, ?_, fun b hb hn => ?_⟩, fun n o ho => ?_, h.h.sep, fun n b hn hb => ?_, fun b hb => ?_⟩, h.s.le le, h.kn, h.k.le le, h.d.le le, h.g⟩
  · rw [hl.alt]; have := h.h.kept.os; rw [hl.alt] at this; exact this
  · rw [hl.alt]; have := h.h.kept.tape; rw [hl.alt] at this; exact this
  · rw [hl.alt]; have := h.h.kept.output; rw [hl.alt] at this; exact this
  · rw [hl.alt]; have := h.h.kept.size; rw [hl.alt] at this; simpa using this
  · rw [hl.alt]
    by_cases e : b = B.lp
    · subst e
      rw [World.putObj_heap_same hlt, World.putObj_heap_same hl.lt]
    · rw [World.putObj_heap_other e, World.putObj_heap_other e]
      have hb2 : b < (B.alt st.ls).heap.size := by rw [hl.alt] at hb ⊢; simpa using hb
      have := h.h.kept.block b hb2 hn
      rw [hl.alt, World.putObj_heap_other e] at this
      exact this
  · refine (h.h.obj n o ho).le le (fun b hb => World.putObj_heap_other (fun e => ?_))
    subst e
    exact (h.h.own n _ ⟨o, ho⟩ hb).2 hl.fb
  · have := h.h.own n b hn hb
    rw [hl.alt] at this ⊢
    simpa using this
  · have := h.h.fb b hb
    rw [hl.alt] at this ⊢
    simpa using this
end

/-! ### A round -/
def setAll : Slots → List (Nat × SV) → Slots
  | sl, [] => sl
  | sl, p :: l => setAll (p :: sl) l

def St.roundIn (st : St) (n : Nat) (sl : Slots) (ps : List Nat) (args : List SV) : St :=
  { n := n, sl := setAll sl (ps.zip args), kn := [], stk := (st.sl, st.df) :: st.stk, hp := st.hp, df := [], ls := .ready, gl := st.gl }

def St.roundOut (st st' : St) (ls : LS) (b : Bool) (kv : SV → St → Prop) : Prop :=
  match st'.ls, st'.stk with
  | .busy, (sl, df) :: r => kv (.cst (.bool b)) { n := st.n, sl := sl, kn := st.kn, stk := r, hp := st'.hp, df := df, ls := ls, gl := st.gl }
  | _, _ => False

inductive Ex where
  | normal | exit (id : Nat) | ret | pan (s : SV)

def vcRound (A Bd : St → (Ex → St → Prop) → Prop) (n : Nat) (ps : List Nat) : CallSem := fun args st kv _ =>
  match st.ls, st.stk with
  | .ready, fr :: _ =>
    if args.length = ps.length ∧ ps.all (fun p => p < n) = true then
      A (st.roundIn n fr.1 ps args) fun e st1 => match e, st1.ls with
        | .normal, .ready => Bd { st1 with ls := .busy } fun e st2 => match e with
          | .normal => st.roundOut st2 .ready true kv
          | .ret => st.roundOut st2 (.done .ret) false kv
          | .exit id => st.roundOut st2 (.done (.exit id)) false kv
          | .pan _ => False
        | _, _ => False
    else False
  | _, _ => False

def CPost (B : Base) (fs : List Act) (k : Ex → St → Prop) : Exit → Act → World → Prop
  | .normal, a, w => ∃ st ρ, k .normal st ∧ StRel B ρ st a fs w
  | .exit id, a, w => ∃ st ρ, k (.exit id) st ∧ StRel B ρ st a fs w
  | .ret, a, w => ∃ st ρ, k .ret st ∧ StRel B ρ st a fs w
  | .panic ch, a, w => ∃ v s st ρ, ch = [{ v := v, recovered := false }] ∧ k (.pan s) st ∧ StRel B ρ st a fs w ∧ s.rel (cx B ρ st.hp w) v
  | .goto _, _, _ => False
  | .outgrown, _, _ => False

theorem CPost.noOut {B : Base} {fs : List Act} {k : Ex → St → Prop} : ¬ LetsOut (CPost B fs k) := fun ⟨_, _, h⟩ => h

theorem setAll_rel {C : Cx} {n : Nat} : ∀ (ps : List Nat) (args : List SV) (vs : List Value) (sl : Slots) (t : Array Value), SlotsRel C n sl t → SV.rels C args vs → args.length = ps.length → ps.all (fun p => p < n) = true →
    SlotsRel C n (setAll sl (ps.zip args)) ((ps.zip vs).foldl (fun (t : Array Value) (p : Nat × Value) => t.setIfInBounds p.1 p.2) t)
  | [], _, _, _, _, h, _, _, _ => h
  | p :: ps, [], _, _, _, _, _, hl, _ => by simp at hl
  | p :: ps, s :: args, vs, sl, t, h, hr, hl, hp => by
    obtain ⟨v, r, rfl, h1, h2⟩ := hr
    simp only [List.all_cons, Bool.and_eq_true, decide_eq_true_eq] at hp
    simp only [List.zip_cons_cons, setAll, List.foldl_cons]
    refine setAll_rel ps args r ((p, s) :: sl) (t.setIfInBounds p v) ⟨by rw [Array.size_setIfInBounds]; exact h.1, fun i s' hs => ?_⟩ h2 (by simpa using hl) hp.2
    rw [lookup_cons] at hs
    split at hs
    · rename_i e
      cases hs
      subst e
      refine ⟨hp.1, ?_⟩
      have : i < t.size := by rw [h.1]; exact hp.1
      rw [Array.getD_eq_getD_getElem?, Array.getElem?_setIfInBounds_self_of_lt this]
      exact h1
    · rename_i e
      obtain ⟨h3, h4⟩ := h.2 i s' hs
      refine ⟨h3, ?_⟩
      rw [Array.getD_eq_getD_getElem?, Array.getElem?_setIfInBounds_ne (Ne.symm e), ← Array.getD_eq_getD_getElem?]
      exact h4

/-- What is asked of a piece of code in a round. -/
def RoundOk (P : Program) (B : Base) (fs : List Act) (c : Code) (A : St → (Ex → St → Prop) → Prop) : Prop :=
  ∀ {st : St} {a : Act} {w : World} {ρ : Nat → Value} {k : Ex → St → Prop} (a1 : Act), A st k → StRel B ρ st a (a1 :: fs) w → c.wpIn (fen (some B.lp)) 0 P (CPost B (a1 :: fs) k) a w

theorem round_sound {P : Program} {B : Base} {W1 : World} {r0 : Loop} (hl : InLoop B W1 r0) {a0 : Act} {fs : List Act} {assign body : Code} {A Bd : St → (Ex → St → Prop) → Prop}
    (hA : RoundOk P B (a0 :: fs) assign A) (hBd : RoundOk P B (a0 :: fs) body Bd) {n : Nat} {ps : Array Nat} (h0 : r0.tmps = a0.tmps) (h1 : r0.params = ps) (h2 : r0.assign = assign) (h3 : r0.body = body) (hn : a0.tmps.size = n) :
    YieldOk P B (a0 :: fs) (vcRound A Bd n ps.toList) := by
  intro args st kv kp ρ a w vs hk h hr
  unfold vcRound at hk
  split at hk
  · rename_i fr rest hls hstk
    split at hk
    · rename_i hc
      obtain ⟨hlen, hps⟩ := hc
      have hat := h.rec_at hl
      rw [hls] at hat
      have hvl := rels_length hr
      have hy := run_yield (P := P) (args := vs.toArray) hat (by
        show vs.toArray.size = r0.params.size
        rw [h1]
        simp only [List.size_toArray]
        rw [hvl, hlen]; simp)
      have hkk := h.k
      rw [hstk] at hkk
      obtain ⟨t, r, e, hs1, hd1, hk1⟩ := hkk
      cases e
      refine ⟨_, _, _, _, hy, roundIn_of_wpIn trivial ?_⟩
      have hsr : StRel B ρ (st.roundIn n fr.1 ps.toList args) { tmps := (((Loop.as r0 .ready).params.zip vs.toArray).foldl (fun tmps (t, a) => tmps.setIfInBounds t a) (Loop.as r0 .ready).tmps), defers := [] } (a :: a0 :: fs) w := by
        refine ⟨by rw [show (st.roundIn n fr.1 ps.toList args).ls = st.ls from hls.symm]; exact h.h, ?_, (fun t b hb => by cases hb), ⟨a, _, rfl, ?_, h.d, h.k⟩, rfl, h.g⟩
        · have := setAll_rel (n := n) ps.toList args vs fr.1 a0.tmps (by rw [← hn]; exact hs1) hr hlen hps
          show SlotsRel _ n (setAll fr.1 (ps.toList.zip args)) ((r0.params.zip vs.toArray).foldl (fun tmps (t, a) => tmps.setIfInBounds t a) r0.tmps)
          rw [h0, h1]
          rw [← Array.foldl_toList, Array.toList_zip]
          exact this
        · exact ⟨rfl, fun i s hs => by have := h.s.2 i s hs; rw [h.s.1]; exact this⟩
      have hasg : (Loop.as r0 .ready).assign = assign := h2
      have hbod : (Loop.as r0 .ready).body = body := h3
      rw [hasg, hbod]
      refine wpIn_mono (hA a hk hsr) (fun e a1 w1 hq => ?_)
      cases e with
      | normal =>
        obtain ⟨st1, ρ1, hk1, h4⟩ := hq
        split at hk1
        · rename_i hx
          have hat1 := h4.rec_at hl
          rw [hx] at hat1
          refine ⟨_, run_beginRound hat1 rfl, ?_⟩
          have h5 := h4.turn_ls hl .busy
          refine wpIn_mono (hBd a hk1 h5) (fun e a2 w2 hq => ?_)
          have fin : ∀ (st2 : St) (ρ2 : Nat → Value) (ls : LS) (b : Bool) (jump : Option Code), st.roundOut st2 ls b kv → StRel B ρ2 st2 a2 (a :: a0 :: fs) w2 → b = jump.isNone →
              (∀ r : Loop, { Loop.as r .busy with state := if jump.isNone then LoopState.ready else LoopState.done, pending := jump } = Loop.as r ls) →
              ∃ v w', (Instr.endRound B.lp jump).run P w2 = .ok v w' ∧ CallPost B a (a0 :: fs) kv kp (.returned v) w' := by
            intro st2 ρ2 ls b jump hk2 h6 hb hr2
            unfold St.roundOut at hk2
            split at hk2
            · rename_i sl2 df2 r2 hx2 hstk2
              have hat2 := h6.rec_at hl
              rw [hx2] at hat2
              have h7 := h6.turn_ls hl ls
              refine ⟨_, _, run_endRound jump hat2, _, _, ρ2, hk2, ?_, by rw [hb]; rfl⟩
              rw [hr2]
              have hk7 := h7.k
              simp only [hstk2] at hk7
              obtain ⟨t2, rr2, e2, hs2, hd2, hkr2⟩ := hk7
              cases e2
              exact ⟨h7.h, by rw [← h.s.1]; exact hs2, h.kn, hkr2, hd2, h.g⟩
            · exact hk2.elim
          cases e with
          | normal => obtain ⟨st2, ρ2, hk2, h6⟩ := hq; exact fin st2 ρ2 .ready true none hk2 h6 rfl (fun r => rfl)
          | ret => obtain ⟨st2, ρ2, hk2, h6⟩ := hq; exact fin st2 ρ2 (.done .ret) false (some .ret) hk2 h6 rfl (fun r => rfl)
          | exit id => obtain ⟨st2, ρ2, hk2, h6⟩ := hq; exact fin st2 ρ2 (.done (.exit id)) false (some (.exit id)) hk2 h6 rfl (fun r => rfl)
          | panic ch => obtain ⟨_, _, _, _, _, hk2, _⟩ := hq; exact hk2.elim
          | goto l => exact hq.elim
          | outgrown => exact hq.elim
        · exact hk1.elim
      | ret => obtain ⟨st2, ρ2, hk2, h6⟩ := hq; simp at hk2
      | exit id => obtain ⟨st2, ρ2, hk2, h6⟩ := hq; simp at hk2
      | panic ch => obtain ⟨_, _, _, _, _, hk2, _⟩ := hq; simp at hk2
      | goto l => exact hq.elim
      | outgrown => exact hq.elim
    · exact hk.elim
  · exact hk.elim
end Go.Vc
