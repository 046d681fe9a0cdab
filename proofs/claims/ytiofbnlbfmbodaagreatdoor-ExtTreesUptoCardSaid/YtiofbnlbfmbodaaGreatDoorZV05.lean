/- Texts of a verified walk, led together: Rnd, Run, Fn, Con, Join, Con2, Law. -/
import Derived.Test.YtiofbnlbfmbodaaGreatDoorZV04
import Derived.WalkKit
import Derived.ProofKit
import Derived.OpenShut
import Derived.JoinedCond
import Derived.Carry
import Derived.Deep.Slices
set_option linter.unusedVariables false
set_option linter.unusedSimpArgs false
section
namespace Go.Vc
open Go.RowKit
mutual
def SV.ny : SV → Bool
  | .yld => false
  | .fn _ c => SV.nyL c
  | .tup c => SV.nyL c
  | .agg c => SV.nyL c
  | .ifc _ s => SV.ny s
  | .gd _ s => SV.ny s
  | _ => true
def SV.nyL : List SV → Bool
  | [] => true
  | s :: l => SV.ny s && SV.nyL l
end
structure Cx.le0 (C C' : Cx) : Prop where
  size : C.w.heap.size ≤ C'.w.heap.size
  same : ∀ b, b < C.w.heap.size → ¬ C.F b → C'.w.heap[b]? = C.w.heap[b]?
  F : ∀ b, b < C.w.heap.size → C'.F b → C.F b
  N : C.N ≤ C'.N
  ρ : ∀ n, n < C.N → C'.ρ n = C.ρ n
def Cx.wl (C : Cx) (l : Nat) : Cx := { C with lp := l }
theorem Cx.le0.le {C C' : Cx} (h : C.le0 C') : (C.wl C'.lp).le C' := ⟨h.size, h.same, h.F, h.N, h.ρ, rfl⟩
mutual
theorem SV.rel.wl {C : Cx} {l : Nat} : ∀ {s : SV} {v : Value}, s.ny = true → s.rel C v → s.rel (C.wl l) v
  | .dat _ _, _, _, h => h
  | .cst _, _, _, h => h
  | .own _, _, _, h => h
  | .sub _ _ _ _, _, _, h => h
  | .ptr _ _, _, _, h => h
  | .rptr _, _, _, h => h
  | .adr _ _, _, _, h => h
  | .oel _ _ _ _, _, _, h => h
  | .aar _ _, _, _, h => h
  | .junk, _, _, _ => trivial
  | .fn f c, v, hn, h => by obtain ⟨vs, e, h⟩ := h; exact ⟨vs, e, SV.rels.wl hn h⟩
  | .tup c, v, hn, h => by obtain ⟨vs, e, h⟩ := h; exact ⟨vs, e, SV.rels.wl hn h⟩
  | .agg c, v, hn, h => by obtain ⟨vs, e, h⟩ := h; exact ⟨vs, e, SV.rels.wl hn h⟩
  | .ifc t s, v, hn, h => by obtain ⟨u, e, h⟩ := h; exact ⟨u, e, SV.rel.wl hn h⟩
  | .gd p s, v, hn, h => ⟨fun hp => SV.rel.wl hn (h.1 hp), h.2⟩
  | .yld, _, hn, _ => by cases hn
theorem SV.rels.wl {C : Cx} {l : Nat} : ∀ {c : List SV} {vs : List Value}, SV.nyL c = true → SV.rels C c vs → SV.rels (C.wl l) c vs
  | [], _, _, h => h
  | s :: c, vs, hn, h => by
    simp only [SV.nyL, Bool.and_eq_true] at hn
    obtain ⟨v, r, e, h1, h2⟩ := h
    exact ⟨v, r, e, SV.rel.wl hn.1 h1, SV.rels.wl hn.2 h2⟩
end
def slNy (sl : Slots) : Bool := sl.all fun p => p.2.ny
def DE.ny : DE → Bool
  | .mark _ => true
  | .fn _ c => SV.nyL c
def Ob.ny : Ob → Bool
  | .var _ c => SV.nyL c
  | _ => true
def St.ny (st : St) : Bool := slNy st.sl && st.df.all DE.ny && (st.stk.all fun p => slNy p.1 && p.2.all DE.ny) && (st.hp.all fun o => match o with | some o => o.ny | none => true)
theorem DRel.wl {C : Cx} {l : Nat} : ∀ {d : List DE} {ds : List Deferred}, d.all DE.ny = true → DRel C d ds → DRel (C.wl l) d ds
  | [], _, _, h => h
  | .mark n :: d, ds, hn, h => by
    simp only [List.all_cons, Bool.and_eq_true] at hn
    obtain ⟨b, r, e, h1, h2, h3⟩ := h
    exact ⟨b, r, e, h1, h2, DRel.wl hn.2 h3⟩
  | .fn f c :: d, ds, hn, h => by
    simp only [List.all_cons, Bool.and_eq_true] at hn
    obtain ⟨vs, r, e, h1, h2⟩ := h
    exact ⟨vs, r, e, SV.rels.wl hn.1 h1, DRel.wl hn.2 h2⟩
theorem SlotsRel.wl {C : Cx} {l n : Nat} {sl : Slots} {t : Array Value} (hn : slNy sl = true) (h : SlotsRel C n sl t) : SlotsRel (C.wl l) n sl t :=
  ⟨h.1, fun i s hs => ⟨(h.2 i s hs).1, SV.rel.wl (by
    have := mk_lookup hs
    simp only [slNy, List.all_eq_true] at hn
    exact hn _ this) (h.2 i s hs).2⟩⟩
theorem StkRel.wl {C : Cx} {l : Nat} : ∀ {k : List (Slots × List DE)} {fs : List Act}, (k.all fun p => slNy p.1 && p.2.all DE.ny) = true → StkRel C k fs → StkRel (C.wl l) k fs
  | [], _, _, h => h
  | p :: k, fs, hn, h => by
    simp only [List.all_cons, Bool.and_eq_true] at hn
    obtain ⟨t, r, e, h1, h2, h3⟩ := h
    exact ⟨t, r, e, h1.wl hn.1.1, h2.wl hn.1.2, StkRel.wl (by simpa using hn.2) h3⟩
theorem Ob.rel.wl {C : Cx} {l : Nat} {o : Ob} {v : Value} (hn : o.ny = true) (h : o.rel C v) : o.rel (C.wl l) v := by
  cases o with
  | row e k xs => exact h
  | var t cs => obtain ⟨b, vs, e, h1, h2⟩ := h; exact ⟨b, vs, e, h1, SV.rels.wl hn h2⟩
  | siter s p => exact h
  | dfr => exact h
  | miter k xs seen => exact h
  | mapo k xs => exact h
def Jump.code : Jump → Code
  | .ret => .ret
  | .exit id => .exit id
def Loop.as (r : Loop) : LS → Loop
  | .no => r
  | .ready => { r with state := .ready, pending := none }
  | .busy => { r with state := .busy, pending := none }
  | .done j => { r with state := .done, pending := some j.code }
structure InLoop (B : Base) (W1 : World) (r0 : Loop) : Prop where
  alt : ∀ ls, B.alt ls = W1.putObj B.lp (.loop (Loop.as r0 ls))
  lt : B.lp < W1.heap.size
  fb : B.Fb B.lp
section
variable {B : Base} {ρ : Nat → Value} {st : St} {a : Act} {fs : List Act} {w W1 : World} {r0 : Loop}
theorem StRel.rec_at (h : StRel B ρ st a fs w) (hl : InLoop B W1 r0) : w.heap[B.lp]? = some (.loop (Loop.as r0 st.ls)) := by
  have h1 := h.h.kept.block B.lp (by rw [hl.alt]; simpa using hl.lt) (h.h.fb _ hl.fb).2
  rw [h1, hl.alt]
  exact World.putObj_heap_same hl.lt
theorem StRel.turn_ls (h : StRel B ρ st a fs w) (hl : InLoop B W1 r0) (ls : LS) : StRel B ρ { st with ls := ls } a fs (w.putObj B.lp (.loop (Loop.as r0 ls))) := by
  have hat := h.rec_at hl
  have hlt := (Array.getElem?_eq_some_iff.1 hat).1
  have le : (cx B ρ st.hp w).le (cx B ρ st.hp (w.putObj B.lp (.loop (Loop.as r0 ls)))) := by
    refine ⟨by simp, fun b _ hF => World.putObj_heap_other (fun e => hF (.inl ?_)), fun _ _ h => h, Nat.le_refl _, fun _ _ => rfl, rfl⟩
    rw [e]; exact hl.fb
  refine ⟨⟨⟨?_, ?_, ?_, ?_, fun b hb hn => ?_⟩, fun n o ho => ?_, h.h.sep, fun n b hn hb => ?_, fun b hb => ?_⟩, h.s.le le, h.kn, h.k.le le, h.d.le le, h.g⟩
  . rw [hl.alt]; have := h.h.kept.os; rw [hl.alt] at this; exact this
  . rw [hl.alt]; have := h.h.kept.tape; rw [hl.alt] at this; exact this
  . rw [hl.alt]; have := h.h.kept.output; rw [hl.alt] at this; exact this
  . rw [hl.alt]; have := h.h.kept.size; rw [hl.alt] at this; simpa using this
  . rw [hl.alt]
    by_cases e : b = B.lp
    . subst e
      rw [World.putObj_heap_same hlt, World.putObj_heap_same hl.lt]
    . rw [World.putObj_heap_other e, World.putObj_heap_other e]
      have hb2 : b < (B.alt st.ls).heap.size := by rw [hl.alt] at hb ⊢; simpa using hb
      have := h.h.kept.block b hb2 hn
      rw [hl.alt, World.putObj_heap_other e] at this
      exact this
  . refine (h.h.obj n o ho).le le (fun b hb => World.putObj_heap_other (fun e => ?_))
    subst e
    exact (h.h.own n _ ⟨o, ho⟩ hb).2 hl.fb
  . have := h.h.own n b hn hb
    rw [hl.alt] at this ⊢
    simpa using this
  . have := h.h.fb b hb
    rw [hl.alt] at this ⊢
    simpa using this
end
def setAll : Slots → List (Nat × SV) → Slots
  | sl, [] => sl
  | sl, p :: l => setAll (p :: sl) l
def St.roundIn (st : St) (n : Nat) (sl : Slots) (ps : List Nat) (args : List SV) : St :=
  { n := n, sl := setAll sl (ps.zip args), kn := [], stk := (st.sl, st.df) :: st.stk, hp := st.hp, df := [], ls := .ready, gl := st.gl }
def St.roundOut (st st' : St) (ls : LS) (b : Bool) (kv : SV → St → Prop) : Prop :=
  match st'.ls, st'.stk with
  | .busy, (sl, df) :: r => kv (.cst (.bool b)) { n := st.n, sl := sl, kn := st.kn, stk := r, hp := st'.hp, df := df, ls := ls, gl := st.gl }
  | _, _ => False
inductive Ex where
  | normal | exit (id : Nat) | ret | pan (s : SV)
def vcRound (A Bd : St → (Ex → St → Prop) → Prop) (n : Nat) (ps : List Nat) : CallSem := fun args st kv _ =>
  match st.ls, st.stk with
  | .ready, fr :: _ =>
    if args.length = ps.length ∧ ps.all (fun p => p < n) = true then
      A (st.roundIn n fr.1 ps args) fun e st1 => match e, st1.ls with
        | .normal, .ready => Bd { st1 with ls := .busy } fun e st2 => match e with
          | .normal => st.roundOut st2 .ready true kv
          | .ret => st.roundOut st2 (.done .ret) false kv
          | .exit id => st.roundOut st2 (.done (.exit id)) false kv
          | .pan _ => False
        | _, _ => False
    else False
  | _, _ => False
def CPost (B : Base) (fs : List Act) (k : Ex → St → Prop) : Exit → Act → World → Prop
  | .normal, a, w => ∃ st ρ, k .normal st ∧ StRel B ρ st a fs w
  | .exit id, a, w => ∃ st ρ, k (.exit id) st ∧ StRel B ρ st a fs w
  | .ret, a, w => ∃ st ρ, k .ret st ∧ StRel B ρ st a fs w
  | .panic ch, a, w => ∃ v s st ρ, ch = [{ v := v, recovered := false }] ∧ k (.pan s) st ∧ StRel B ρ st a fs w ∧ s.rel (cx B ρ st.hp w) v
  | .goto _, _, _ => False
  | .outgrown, _, _ => False
theorem CPost.noOut {B : Base} {fs : List Act} {k : Ex → St → Prop} : ¬ LetsOut (CPost B fs k) := fun ⟨_, _, h⟩ => h
theorem setAll_rel {C : Cx} {n : Nat} : ∀ (ps : List Nat) (args : List SV) (vs : List Value) (sl : Slots) (t : Array Value), SlotsRel C n sl t → SV.rels C args vs → args.length = ps.length → ps.all (fun p => p < n) = true →
    SlotsRel C n (setAll sl (ps.zip args)) ((ps.zip vs).foldl (fun (t : Array Value) (p : Nat × Value) => t.setIfInBounds p.1 p.2) t)
  | [], _, _, _, _, h, _, _, _ => h
  | p :: ps, [], _, _, _, _, _, hl, _ => by simp at hl
  | p :: ps, s :: args, vs, sl, t, h, hr, hl, hp => by
    obtain ⟨v, r, rfl, h1, h2⟩ := hr
    simp only [List.all_cons, Bool.and_eq_true, decide_eq_true_eq] at hp
    simp only [List.zip_cons_cons, setAll, List.foldl_cons]
    refine setAll_rel ps args r ((p, s) :: sl) (t.setIfInBounds p v) ⟨by rw [Array.size_setIfInBounds]; exact h.1, fun i s' hs => ?_⟩ h2 (by simpa using hl) hp.2
    rw [lookup_cons] at hs
    split at hs
    . rename_i e
      cases hs
      subst e
      refine ⟨hp.1, ?_⟩
      have : i < t.size := by rw [h.1]; exact hp.1
      rw [Array.getD_eq_getD_getElem?, Array.getElem?_setIfInBounds_self_of_lt this]
      exact h1
    . rename_i e
      obtain ⟨h3, h4⟩ := h.2 i s' hs
      refine ⟨h3, ?_⟩
      rw [Array.getD_eq_getD_getElem?, Array.getElem?_setIfInBounds_ne (Ne.symm e), ← Array.getD_eq_getD_getElem?]
      exact h4
def RoundOk (P : Program) (B : Base) (fs : List Act) (c : Code) (A : St → (Ex → St → Prop) → Prop) : Prop :=
  ∀ {st : St} {a : Act} {w : World} {ρ : Nat → Value} {k : Ex → St → Prop} (a1 : Act), A st k → StRel B ρ st a (a1 :: fs) w → c.wpIn (fen (some B.lp)) 0 P (CPost B (a1 :: fs) k) a w
theorem round_sound {P : Program} {B : Base} {W1 : World} {r0 : Loop} (hl : InLoop B W1 r0) {a0 : Act} {fs : List Act} {assign body : Code} {A Bd : St → (Ex → St → Prop) → Prop}
    (hA : RoundOk P B (a0 :: fs) assign A) (hBd : RoundOk P B (a0 :: fs) body Bd) {n : Nat} {ps : Array Nat} (h0 : r0.tmps = a0.tmps) (h1 : r0.params = ps) (h2 : r0.assign = assign) (h3 : r0.body = body) (hn : a0.tmps.size = n) :
    YieldOk P B (a0 :: fs) (vcRound A Bd n ps.toList) := by
  intro args st kv kp ρ a w vs hk h hr
  unfold vcRound at hk
  split at hk
  . rename_i fr rest hls hstk
    split at hk
    . rename_i hc
      obtain ⟨hlen, hps⟩ := hc
      have hat := h.rec_at hl
      rw [hls] at hat
      have hvl := rels_length hr
      have hy := run_yield (P := P) (args := vs.toArray) hat (by
        show vs.toArray.size = r0.params.size
        rw [h1]
        simp only [List.size_toArray]
        rw [hvl, hlen]; simp)
      have hkk := h.k
      rw [hstk] at hkk
      obtain ⟨t, r, e, hs1, hd1, hk1⟩ := hkk
      cases e
      refine ⟨_, _, _, _, hy, roundIn_of_wpIn trivial ?_⟩
      have hsr : StRel B ρ (st.roundIn n fr.1 ps.toList args) { tmps := (((Loop.as r0 .ready).params.zip vs.toArray).foldl (fun tmps (t, a) => tmps.setIfInBounds t a) (Loop.as r0 .ready).tmps), defers := [] } (a :: a0 :: fs) w := by
        refine ⟨by rw [show (st.roundIn n fr.1 ps.toList args).ls = st.ls from hls.symm]; exact h.h, ?_, (fun t b hb => by cases hb), ⟨a, _, rfl, ?_, h.d, h.k⟩, rfl, h.g⟩
        . have := setAll_rel (n := n) ps.toList args vs fr.1 a0.tmps (by rw [← hn]; exact hs1) hr hlen hps
          show SlotsRel _ n (setAll fr.1 (ps.toList.zip args)) ((r0.params.zip vs.toArray).foldl (fun tmps (t, a) => tmps.setIfInBounds t a) r0.tmps)
          rw [h0, h1]
          rw [← Array.foldl_toList, Array.toList_zip]
          exact this
        . exact ⟨rfl, fun i s hs => by have := h.s.2 i s hs; rw [h.s.1]; exact this⟩
      have hasg : (Loop.as r0 .ready).assign = assign := h2
      have hbod : (Loop.as r0 .ready).body = body := h3
      rw [hasg, hbod]
      refine wpIn_mono (hA a hk hsr) (fun e a1 w1 hq => ?_)
      cases e with
      | normal =>
        obtain ⟨st1, ρ1, hk1, h4⟩ := hq
        split at hk1
        . rename_i hx
          have hat1 := h4.rec_at hl
          rw [hx] at hat1
          refine ⟨_, run_beginRound hat1 rfl, ?_⟩
          have h5 := h4.turn_ls hl .busy
          refine wpIn_mono (hBd a hk1 h5) (fun e a2 w2 hq => ?_)
          have fin : ∀ (st2 : St) (ρ2 : Nat → Value) (ls : LS) (b : Bool) (jump : Option Code), st.roundOut st2 ls b kv → StRel B ρ2 st2 a2 (a :: a0 :: fs) w2 → b = jump.isNone →
              (∀ r : Loop, { Loop.as r .busy with state := if jump.isNone then LoopState.ready else LoopState.done, pending := jump } = Loop.as r ls) →
              ∃ v w', (Instr.endRound B.lp jump).run P w2 = .ok v w' ∧ CallPost B a (a0 :: fs) kv kp (.returned v) w' := by
            intro st2 ρ2 ls b jump hk2 h6 hb hr2
            unfold St.roundOut at hk2
            split at hk2
            . rename_i sl2 df2 r2 hx2 hstk2
              have hat2 := h6.rec_at hl
              rw [hx2] at hat2
              have h7 := h6.turn_ls hl ls
              refine ⟨_, _, run_endRound jump hat2, _, _, ρ2, hk2, ?_, by rw [hb]; rfl⟩
              rw [hr2]
              have hk7 := h7.k
              simp only [hstk2] at hk7
              obtain ⟨t2, rr2, e2, hs2, hd2, hkr2⟩ := hk7
              cases e2
              exact ⟨h7.h, by rw [← h.s.1]; exact hs2, h.kn, hkr2, hd2, h.g⟩
            . exact hk2.elim
          cases e with
          | normal => obtain ⟨st2, ρ2, hk2, h6⟩ := hq; exact fin st2 ρ2 .ready true none hk2 h6 rfl (fun r => rfl)
          | ret => obtain ⟨st2, ρ2, hk2, h6⟩ := hq; exact fin st2 ρ2 (.done .ret) false (some .ret) hk2 h6 rfl (fun r => rfl)
          | exit id => obtain ⟨st2, ρ2, hk2, h6⟩ := hq; exact fin st2 ρ2 (.done (.exit id)) false (some (.exit id)) hk2 h6 rfl (fun r => rfl)
          | panic ch => obtain ⟨_, _, _, _, _, hk2, _⟩ := hq; exact hk2.elim
          | goto l => exact hq.elim
          | outgrown => exact hq.elim
        . exact hk1.elim
      | ret => obtain ⟨st2, ρ2, hk2, h6⟩ := hq; simp at hk2
      | exit id => obtain ⟨st2, ρ2, hk2, h6⟩ := hq; simp at hk2
      | panic ch => obtain ⟨_, _, _, _, _, hk2, _⟩ := hq; simp at hk2
      | goto l => exact hq.elim
      | outgrown => exact hq.elim
    . exact hk.elim
  . exact hk.elim
end Go.Vc
end
section
namespace Go.Vc
open Go.RowKit
theorem wp_loop_rel {F : Fence} {j : Nat} {P : Program} {Q : Exit → Act → World → Prop} {a : Act} {w : World} {c : Code} (R : Nat → Act → World → Prop) (n₀ : Nat) (h₀ : R n₀ a w)
    (round : ∀ n a w, R n a w → c.wpIn F j P (Exit.then (fun a' w' => ∃ m, m < n ∧ R m a' w') Q) a w) : (Code.loop c).wpIn F j P Q a w := by
  intro b k cs hro hb hr
  have key : ∀ n a w, R n a w →
      ∃ e a' w', Q e a' w' ∧ ArrivesIn (Machine.fenced P F) P (lone (b.atR a (.code c :: .inLoop c :: k)) cs w) b k cs e a' w' := by
    intro n
    induction n using Nat.strongRecOn with
    | _ n ih =>
      intro a w hI
      obtain ⟨e, a₁, w₁, hq, harr⟩ := round n a w hI b (.inLoop c :: k) cs hro hb hr
      cases e with
      | normal =>
        obtain ⟨m, hlt, hI₁⟩ := hq
        obtain ⟨e₂, a₂, w₂, hq₂, harr₂⟩ := ih m hlt a₁ w₁ hI₁
        exact ⟨e₂, a₂, w₂, hq₂, .of_steps (StepsIn.trans harr (.one (fenced_calm hb hr rfl) stepR_inLoop)) harr₂⟩
      | exit id => exact ⟨_, a₁, w₁, hq, .pass (x := .inLoop c) rfl (fun _ _ => .inl (by simp)) harr⟩
      | goto l => exact ⟨_, a₁, w₁, hq, .pass (x := .inLoop c) rfl (fun _ _ => .inl (by simp)) harr⟩
      | ret => exact ⟨_, a₁, w₁, hq, .pass (x := .inLoop c) rfl (fun _ _ => .inl (by simp)) harr⟩
      | panic ch => exact ⟨_, a₁, w₁, hq, .pass (x := .inLoop c) rfl (fun _ _ => .inl (by simp)) harr⟩
      | outgrown => exact ⟨_, a₁, w₁, hq, .pass (x := .inLoop c) rfl (fun _ _ => .inl (by simp)) harr⟩
  obtain ⟨e, a', w', hq, harr⟩ := key n₀ a w h₀
  exact ⟨e, a', w', hq, .of_steps (.one (fenced_calm hb hr rfl) stepR_loop) harr⟩
section
variable {P : Program} {b : Frame} {a : Act} {k : List Item} {cs : List Frame} {w : World}
theorem stepR_scope {c : Code} : step P (lone (b.atR a (.code (.scope c) :: k)) cs w) = .next (lone (b.atR a (.code c :: .inScope c :: k)) cs w) :=
  step_lone_go (by simp [stepG, stepG.exec, Frame.atR])
theorem stepR_inScope {c : Code} : step P (lone (b.atR a (.inScope c :: k)) cs w) = .next (lone (b.atR a k) cs w) :=
  step_lone_go (by simp [stepG, stepG.exec, Frame.atR])
end
theorem wpIn_scope {F : Fence} {j : Nat} {P : Program} {Q : Exit → Act → World → Prop} {a : Act} {w : World} {c : Code} (h : c.wpIn F j P (Exit.noGoto Q) a w) : (Code.scope c).wpIn F j P Q a w := by
  intro b k cs hro hb hr
  have h0 : (lone (b.atR a (.code (.scope c) :: k)) cs w).fenced P F := fenced_calm hb hr rfl
  obtain ⟨e, a₁, w₁, hq, harr⟩ := h b (.inScope c :: k) cs hro hb hr
  have hx : ∀ id, exitTo id (.inScope c :: k) = exitTo id k := fun id => by simp [exitTo]
  cases e with
  | normal => exact ⟨.normal, a₁, w₁, hq, .head h0 stepR_scope (StepsIn.trans harr (.one (fenced_calm hb hr rfl) stepR_inScope))⟩
  | exit id => exact ⟨.exit id, a₁, w₁, hq, fun k' hk => .head h0 stepR_scope (harr.1 k' (by rw [hx]; exact hk)), fun hr' hk => let ⟨k₁, h1, h2⟩ := harr.2 hr' (by rw [hx]; exact hk); ⟨k₁, h1, .head h0 stepR_scope h2⟩⟩
  | goto l => exact hq.elim
  | ret => exact ⟨_, a₁, w₁, hq, .of_steps (.one h0 stepR_scope) harr⟩
  | panic ch => exact ⟨_, a₁, w₁, hq, .of_steps (.one h0 stepR_scope) harr⟩
  | outgrown => exact ⟨_, a₁, w₁, hq, .of_steps (.one h0 stepR_scope) harr⟩
def dstsOps (l : List Oper) : List Nat := l.filterMap (·.dst)
def dsts : Code → List Nat
  | .region _ ops _ => dstsOps ops.toList
  | .seq a b => dsts a ++ dsts b
  | .cond _ a b => dsts a ++ dsts b
  | .block _ c => dsts c
  | .loop c => dsts c
  | .scope c => dsts c
  | _ => []
def dstTy : Code → Nat → Option Nat
  | .region _ ops _, i => (ops.toList.find? fun o => o.dst == some i && (match o.op with | .assign _ => true | _ => false)).map (·.type)
  | .seq a b, i => match dstTy a i with | some t => some t | none => dstTy b i
  | .cond _ a b, i => match dstTy a i with | some t => some t | none => dstTy b i
  | .block _ c, i => dstTy c i
  | .loop c, i => dstTy c i
  | .scope c, i => dstTy c i
  | _, _ => none
def opLoud (muts : List Nat) (o : Oper) : Bool :=
  match o.op with
  | .store .. => true
  | .call c => match c.callee with
    | .value (.func f) => muts.contains f
    | .value _ => true
    | _ => false
  | _ => false
def loud (muts : List Nat) : Code → Bool
  | .region _ ops _ => ops.toList.any (opLoud muts)
  | .seq a b => loud muts a || loud muts b
  | .cond _ a b => loud muts a || loud muts b
  | .block _ c => loud muts c
  | .loop c => loud muts c
  | .scope c => loud muts c
  | .rangeFunc .. => true
  | _ => false
def nexts : Code → Bool
  | .region _ ops _ => ops.toList.any fun o => match o.op with | .next _ _ => true | _ => false
  | .seq a b => nexts a || nexts b
  | .cond _ a b => nexts a || nexts b
  | .block _ c => nexts c
  | .loop c => nexts c
  | .scope c => nexts c
  | .rangeFunc .. => true
  | _ => false
def planSl (E : Ty) (asDat : List Nat) (body : Code) (ds : List Nat) : Nat → Slots → List PE × List OE
  | _, [] => ([], [])
  | N, (i, s) :: r =>
    if ds.contains i then
      match s with
      | .dat k _ => let q := planSl E asDat body ds N r; (.var i k :: q.1, q.2)
      | .own n => if asDat.contains i then
          match E.k ((dstTy body i).getD 0) with
          | some k => let q := planSl E asDat body ds N r; (.var i k :: q.1, q.2)
          | none => planSl E asDat body ds N r
        else let q := planSl E asDat body ds N r; (.own i n :: q.1, q.2)
      | .cst c => if nilSlice c then
          match E.d ((dstTy body i).getD 0), E.k ((dstTy body i).getD 0) with
          | .sl e, some (.sl k) => if asDat.contains i then let q := planSl E asDat body ds N r; (.var i (.sl k) :: q.1, q.2)
              else let q := planSl E asDat body ds (N + 1) r; (.own i N :: q.1, .row e k :: q.2)
          | _, _ => planSl E asDat body ds N r
        else match c with
          | .bool _ => let q := planSl E asDat body ds N r; (.var i .bool :: q.1, q.2)
          | _ => planSl E asDat body ds N r
      | .sub _ k _ _ => let q := planSl E asDat body ds N r; (.var i (.sl k) :: q.1, q.2)
      | _ => planSl E asDat body ds N r
    else match sameSV s s with
      | some _ => let q := planSl E asDat body ds N r; (.same i s :: q.1, q.2)
      | none => planSl E asDat body ds N r
def ownNames : List PE → List Nat
  | [] => []
  | .own _ n :: l => n :: ownNames l
  | _ :: l => ownNames l
def cellNames (st : St) (n : Nat) : List Nat := match st.hp[n]? with | some (some (.var _ cs)) => SV.namesL cs | _ => []
def reach (st : St) : Nat → List Nat → List Nat
  | 0, l => l
  | k + 1, l => reach st k (l ++ l.flatMap (cellNames st))
def nilRow (E : Ty) (t : Nat) (c : Value) : Option (Nat × Kd) :=
  if nilSlice c then
    match E.d t with
    | .sl e => match E.k e with
      | some k => some (e, k)
      | none => none
    | _ => none
  else none
def cellTy (E : Ty) (t i : Nat) : Nat :=
  match E.d t with
  | .st l => match l.find? fun p => Nat.beq p.2 i with
    | some p => p.1
    | none => t
  | _ => t
def NILF : Nat := 5000000
def planCells (E : Ty) (t : Nat) (nf abs : Bool) : Nat → Nat → List SV → List PE × List OE
  | _, _, [] => ([], [])
  | N, i, s :: l =>
    match abs, s with
    | true, .dat k _ => (.var i k :: (planCells E t nf abs N (i + 1) l).1, (planCells E t nf abs N (i + 1) l).2)
    | true, .own n => (.own i n :: (planCells E t nf abs N (i + 1) l).1, (planCells E t nf abs N (i + 1) l).2)
    | true, .cst (.bool _) => (.var i .bool :: (planCells E t nf abs N (i + 1) l).1, (planCells E t nf abs N (i + 1) l).2)
    | true, .cst c => match nilRow E (if nf then cellTy E t i else t) c with
      | some (e, k) => (.own i N :: (planCells E t nf abs (N + 1) (i + 1) l).1, .row e k :: (planCells E t nf abs (N + 1) (i + 1) l).2)
      | none => (.same i s :: (planCells E t nf abs N (i + 1) l).1, (planCells E t nf abs N (i + 1) l).2)
    | _, s => (.same i s :: (planCells E t nf abs N (i + 1) l).1, (planCells E t nf abs N (i + 1) l).2)
def planOb (E : Ty) (abs nx : Bool) (refd owned : List Nat) : Nat → Nat → List (Option Ob) → List OE × List OE
  | _, _, [] => ([], [])
  | N, n, ob :: l =>
    if refd.contains n then
      match ob with
      | some (.row e k xs) => ((if abs || owned.contains n then .row e k else .rowSame e k xs) :: (planOb E abs nx refd owned N (n + 1) l).1, (planOb E abs nx refd owned N (n + 1) l).2)
      | some (.var t cs) => let p := planCells E t (owned.contains NILF) abs N 0 cs
        (.var t p.1 :: (planOb E abs nx refd owned (N + p.2.length) (n + 1) l).1, p.2 ++ (planOb E abs nx refd owned (N + p.2.length) (n + 1) l).2)
      | some (.siter s pos) => ((if nx then .iter s else .iterSame s pos) :: (planOb E abs nx refd owned N (n + 1) l).1, (planOb E abs nx refd owned N (n + 1) l).2)
      | some (.miter k xs _) => (.miter k xs :: (planOb E abs nx refd owned N (n + 1) l).1, (planOb E abs nx refd owned N (n + 1) l).2)
      | some (.mapo _ _) => (.dead :: (planOb E abs nx refd owned N (n + 1) l).1, (planOb E abs nx refd owned N (n + 1) l).2)
      | some .dfr => (.dfr :: (planOb E abs nx refd owned N (n + 1) l).1, (planOb E abs nx refd owned N (n + 1) l).2)
      | none => (.dead :: (planOb E abs nx refd owned N (n + 1) l).1, (planOb E abs nx refd owned N (n + 1) l).2)
    else (.dead :: (planOb E abs nx refd owned N (n + 1) l).1, (planOb E abs nx refd owned N (n + 1) l).2)
structure Hints where
  asDat : List Nat := []
  muts : List Nat := []
  joins : List Nat := []
  news : List (Nat × Nat × Nat) := []
  rounds : List (Nat × Nat) := []
  drops : List (Nat × Nat) := []
def firstId : Code → Option Nat
  | .region id _ _ => some id
  | .seq a b => match firstId a with | some i => some i | none => firstId b
  | .block _ c => firstId c
  | .loop c => firstId c
  | .scope c => firstId c
  | _ => none
def Hints.joined (H : Hints) (c : Code) : Bool := match firstId c with | some i => H.joins.contains i | none => false
def plan (E : Ty) (H : Hints) (body : Code) (st : St) : List PE × List OE :=
  let q := planSl E H.asDat body (dsts body) st.hp.length st.sl
  let abs := loud H.muts body
  let refd := reach st 3 (PE.names q.1 ++ ownNames q.1 ++ (dfNames st.df ++ stkNames st.stk))
  let o := planOb E abs (nexts body) refd (ownNames q.1 ++ (if abs then refd else []) ++ (if H.asDat.contains NILF then [NILF] else [])) (st.hp.length + q.2.length) 0 st.hp
  (q.1, o.1 ++ (q.2 ++ o.2))
def St.knowOp (st : St) (c : Operand) (b : Bool) : St := match c with | .tmp t => st.know t b | _ => st
def Env.inRound (E : Env) : Env := { E with yld := none, rnd := true }
def St.loopOut (st : St) (k : Ex → St → Prop) : Prop :=
  if st.ny then
    match st.ls with
    | .ready => k .normal { st with ls := .no }
    | .done .ret => k .ret { st with ls := .no }
    | .done (.exit id) => k (.exit id) { st with ls := .no }
    | _ => False
  else False
def St.marked (st : St) : Code → St
  | .rangeFunc .. => { st with hp := st.hp ++ [some .dfr], df := .mark st.hp.length :: st.df }
  | .block _ (.rangeFunc ..) => { st with hp := st.hp ++ [some .dfr], df := .mark st.hp.length :: st.df }
  | .seq _ (.rangeFunc ..) => { st with hp := st.hp ++ [some .dfr], df := .mark st.hp.length :: st.df }
  | .seq _ (.block _ (.rangeFunc ..)) => { st with hp := st.hp ++ [some .dfr], df := .mark st.hp.length :: st.df }
  | _ => st
def uniqSl : List Nat → Slots → Slots
  | _, [] => []
  | seen, (i, s) :: r => if seen.contains i then uniqSl seen r else (i, s) :: uniqSl (i :: seen) r
def St.uniq (st : St) : St := { st with sl := uniqSl [] st.sl }
def Hints.newsAt (H : Hints) (c : Code) : List (Nat × Nat) := match firstId c with
  | some i => (H.news.filter fun p => p.1 == i).map (·.2)
  | none => []
def St.withNews (E : Ty) : St → List (Nat × Nat) → St
  | st, [] => st
  | st, (s, t) :: l => if Nat.ble 1000000 t then match E.k (t - 1000000) with
    | some k => St.withNews E { st with sl := (s, .dat k k.dft) :: st.sl } l
    | none => st
  else match E.k t with
    | some k => St.withNews E { st with hp := st.hp ++ [some (newOb E t (leaves k k.dft))], sl := (s, obSV st.hp.length (newOb E t (leaves k k.dft))) :: st.sl } l
    | none => st
def planD (E : Ty) (H : Hints) (body : Code) (ds : List Nat) (st : St) : List PE × List OE :=
  let q := planSl E H.asDat body ds st.hp.length st.sl
  let abs := loud H.muts body
  let refd := reach st 3 (PE.names q.1 ++ ownNames q.1 ++ (dfNames st.df ++ stkNames st.stk))
  let o := planOb E abs (nexts body) refd (ownNames q.1 ++ (if abs then refd else [])) (st.hp.length + q.2.length) 0 st.hp
  (q.1, o.1 ++ (q.2 ++ o.2))
def Hints.dropsAt (H : Hints) (c : Code) : List Nat := match firstId c with
  | some i => (H.drops.filter fun p => p.1 == i).map (·.2)
  | none => []
def St.without (st : St) : List Nat → St
  | [] => st
  | i :: l => { st with sl := st.sl.filter fun p => !(i :: l).contains p.1 }
def planJ (E : Ty) (H : Hints) (x y : Code) (st : St) : List PE × List OE :=
  match H.newsAt y with
  | [] => plan E H x ((st.marked x).without (H.dropsAt y)).uniq
  | l => planD E H x ((dsts x).filter fun i => !((l.filter fun p => !Nat.ble 1000000 p.2).map (·.1)).contains i) (((st.marked x).without (H.dropsAt y)).withNews E l).uniq
def Hints.roundsOf (H : Hints) (c : Code) : Option Nat := match firstId c with | some i => H.rounds.lookup i | none => none
def vcRounds (f : St → (Ex → St → Prop) → Prop) : Nat → St → (Ex → St → Prop) → Prop
  | 0, _, _ => False
  | n + 1, st, k => f st fun e st' => match e with
    | .normal => vcRounds f n st' k
    | .exit j => k (.exit j) st'
    | .ret => k .ret st'
    | .pan s => k (.pan s) st'
def vcCode (H : Hints) : Code → Env → St → (Ex → St → Prop) → Prop
  | .skip, _, st, k => k .normal st
  | .region _ ops draw, E, st, k =>
    if draw then vcDraw E ops st (fun st' => k .normal (st'.trim E.keep)) (fun s st' => k (.pan s) st')
    else vcOps E ops ops.toList st (fun st' => k .normal (st'.trim E.keep)) (fun s st' => k (.pan s) st')
  | .seq x y, E, st, k => if H.joined y then
      ∃ J : PE.Tup (planJ E.toTy H x y st).1 → OE.Tup (planJ E.toTy H x y st).2 → Prop,
        (vcCode H x E st fun e st' => match e with
          | .normal => if st'.n = st.n then st'.fitK (planJ E.toTy H x y st).1 (planJ E.toTy H x y st).2 (cleanStk st.stk) (st.marked x).df st.ls J else False
          | .exit id => k (.exit id) st'
          | .ret => k .ret st'
          | .pan s => k (.pan s) st') ∧
        ∀ u z, PE.wf (planJ E.toTy H x y st).1 u → OE.wf (planJ E.toTy H x y st).2 z → J u z → vcCode H y E (headSt st (planJ E.toTy H x y st).1 (planJ E.toTy H x y st).2 (cleanStk st.stk) (st.marked x).df st.ls u z) k
    else vcCode H x E st fun e st' => match e with
    | .normal => vcCode H y E st' k
    | .exit id => k (.exit id) st'
    | .ret => k .ret st'
    | .pan s => k (.pan s) st'
  | .cond c x y, E, st, k => match st.ev c with
    | .dat .bool b => (b = true → vcCode H x E (st.knowOp c true) k) ∧ (b = false → vcCode H y E (st.knowOp c false) k)
    | .cst (.bool true) => vcCode H x E st k
    | .cst (.bool false) => vcCode H y E st k
    | _ => False
  | .block id c, E, st, k => vcCode H c E st fun e st' => match e with
    | .normal => k .normal st'
    | .exit j => if j = id then k .normal st' else k (.exit j) st'
    | .ret => k .ret st'
    | .pan s => k (.pan s) st'
  | .loop c, E, st, k => match H.roundsOf c with
    | some n => vcRounds (fun st k => vcCode H c E st k) n st k
    | none =>
    let p := plan E.toTy H c st.uniq
    ∃ (I : PE.Tup p.1 → OE.Tup p.2 → Prop) (μ : PE.Tup p.1 → OE.Tup p.2 → Nat),
      st.fitK p.1 p.2 (cleanStk st.stk) st.df st.ls I ∧
      ∀ y z, PE.wf p.1 y → OE.wf p.2 z → I y z → vcCode H c E (headSt st p.1 p.2 (cleanStk st.stk) st.df st.ls y z) fun e st' => match e with
        | .normal => if st'.n = st.n then st'.fitK p.1 p.2 (cleanStk st.stk) st.df st.ls (fun y' z' => I y' z' ∧ μ y' z' < μ y z) else False
        | .exit j => k (.exit j) st'
        | .ret => k .ret st'
        | .pan s => k (.pan s) st'
  | .exit id, _, st, k => k (.exit id) st
  | .scope c, E, st, k => vcCode H c E st k
  | .label _, _, st, k => k .normal st
  | .ret, _, st, k => k .ret st
  | .rangeFunc g ps assign body, E, st, k =>
    if E.rnd then False else
    match st.ls, st.ev g with
    | .no, .fn f cap => match E.seqs f with
      | some q => if st.ny && SV.nyL cap then
          q (vcRound (fun st k => vcCode H assign E.inRound st k) (fun st k => vcCode H body E.inRound st k) st.n ps.toList) (.yld :: cap)
            { st with hp := st.hp ++ [some .dfr], df := .mark st.hp.length :: st.df, ls := .ready } (fun _ st' => st'.loopOut k) (fun _ _ => False)
        else False
      | none => False
    | _, _ => False
  | _, _, _, _ => False
section
variable {H : Hints}
theorem knowT {B : Base} {fs : List Act} {ρ : Nat → Value} {st : St} {a : Act} {w : World} {t : Nat} {b : Bool} (h : StRel B ρ st a fs w) (hb : st.ev (.tmp t) = .dat .bool b) (hc : a.eval (.tmp t) = .bool b) : StRel B ρ (st.know t b) a fs w := by
  simp only [St.ev] at hb
  split at hb
  . rename_i s hs
    exact h.know (h.s.2 t s hs).1 hc
  . cases hb
theorem getElem?_snoc_lt {α : Type} {l : List α} {x : α} {i : Nat} (h : i < l.length) : (l ++ [x])[i]? = l[i]? := List.getElem?_append_left h
theorem StRel.over {B B' : Base} {ρ : Nat → Value} {st : St} {a : Act} {fs : List Act} {w w' : World} (h : StRel B ρ st a fs w) (hny : st.ny = true) (le : (cx B ρ st.hp w).le0 (cx B' ρ st.hp w')) (ls : LS)
    (hk : Kept B'.S (B'.alt ls) w') (hb : ∀ n b, live st.hp n → blk (ρ n) = some b → w'.heap[b]? = w.heap[b]?)
    (ho : ∀ n b, live st.hp n → blk (ρ n) = some b → ((B'.alt ls).heap.size ≤ b ∨ B'.S b) ∧ ¬ B'.Fb b) (hf : ∀ b, B'.Fb b → b < (B'.alt ls).heap.size ∧ ¬ B'.S b) (hg : B'.gl = B.gl) : StRel B' ρ { st with ls := ls } a fs w' := by
  simp only [St.ny, Bool.and_eq_true] at hny
  obtain ⟨⟨⟨n1, n2⟩, n3⟩, n4⟩ := hny
  have le' := le.le
  refine ⟨⟨hk, fun n o hn => ?_, h.h.sep, ho, hf⟩, (h.s.wl n1).le le', h.kn, (h.k.wl n3).le le', (h.d.wl n2).le le', h.g.trans hg.symm⟩
  have hon : o.ny = true := by
    simp only [List.all_eq_true] at n4
    exact n4 _ (List.mem_iff_getElem?.2 ⟨n, hn⟩)
  exact ((h.h.obj n o hn).wl hon).le le' (fun b hbk => hb n b ⟨o, hn⟩ hbk)
theorem range_sound2 {E : Env} {gl : Gl} (hE : E.Ok gl) {B : Base} (hB : B.gl = gl) {fs : List Act} {ρ : Nat → Value} {st : St} {a : Act} {w : World} {k : Ex → St → Prop} {g : Operand} {ps : Array Nat} {assign body : Code}
    (h : StRel B ρ st a fs w) (hls : st.ls = .no) {f : Nat} {cap : List SV} (hev : st.ev g = .fn f cap) {q : CallSem → CallSem} (hq : E.seqs f = some q) (hny : st.ny = true) (hnc : SV.nyL cap = true)
    {A Bd : St → (Ex → St → Prop) → Prop} (hA : ∀ B', B'.gl = gl → RoundOk E.P B' ({ a with defers := { target := .collected w.heap.size, args := #[] } :: a.defers } :: fs) assign A) (hBd : ∀ B', B'.gl = gl → RoundOk E.P B' ({ a with defers := { target := .collected w.heap.size, args := #[] } :: a.defers } :: fs) body Bd)
    (hk : q (vcRound A Bd st.n ps.toList) (.yld :: cap) { st with hp := st.hp ++ [some .dfr], df := .mark st.hp.length :: st.df, ls := .ready } (fun _ st' => st'.loopOut k) (fun _ _ => False)) :
    (Code.rangeFunc g ps assign body).wpIn (fen none) 0 E.P (CPost B fs k) a w := by
  have hgr := ev_rel h g
  rw [hev] at hgr
  obtain ⟨cvs, hge, hcr⟩ := hgr
  refine wpIn_rangeFunc (fun fn _ => ?_)
  let r0 : Loop := { state := .ready, pending := none, fn, tmps := a.tmps, params := ps, assign, body, defers := w.heap.size }
  let wD : World := w.alloc (.deferred (some []))
  let W1 : World := wD.alloc (.loop r0)
  have hD : wD.heap.size = w.heap.size + 1 := by simp [wD]
  have hW : W1.heap.size = w.heap.size + 2 := by simp [W1, hD]
  -- the block for deferred calls, an object
  have T : Turn B ρ (upd ρ st.hp.length (.pointer (some ⟨w.heap.size, 0, none⟩))) st.hp (st.hp ++ [some .dfr]) w wD st.hp.length none :=
    Turn.new (World.grownBy_alloc w _ none) (fun b hb => by cases hb; exact Nat.le_refl _)
  have hR1 := h.turn T (fun ob hob => by
    rw [getElem?_snoc] at hob
    cases hob
    rw [upd_same]
    exact ⟨_, rfl, World.alloc_heap_new w _⟩)
  generalize hρ' : upd ρ st.hp.length (.pointer (some ⟨w.heap.size, 0, none⟩)) = ρ' at T hR1
  have hρm : ρ' st.hp.length = .pointer (some ⟨w.heap.size, 0, none⟩) := by rw [← hρ', upd_same]
  have hρo : ∀ n, n < st.hp.length → ρ' n = ρ n := fun n hn => by rw [← hρ']; exact upd_lt ρ _ _ n hn
  have hlive : ∀ n b, live (st.hp ++ [some .dfr]) n → blk (ρ' n) = some b → (n = st.hp.length ∧ b = w.heap.size) ∨ (live st.hp n ∧ blk (ρ n) = some b) := by
    rintro n b ⟨o, ho⟩ hb
    have hlt := (List.getElem?_eq_some_iff.1 ho).1
    simp only [List.length_append, List.length_singleton] at hlt
    by_cases e : n = st.hp.length
    . subst e
      rw [hρm] at hb
      cases hb
      exact .inl ⟨rfl, rfl⟩
    . rw [getElem?_snoc_lt (by omega)] at ho
      rw [hρo n (by omega)] at hb
      exact .inr ⟨⟨o, ho⟩, hb⟩
  have hh1 : ∀ b, b < wD.heap.size → W1.heap[b]? = wD.heap[b]? := fun b hb => Below.heap_alloc wD _ b hb
  have hh0 : ∀ b, b < w.heap.size → wD.heap[b]? = w.heap[b]? := fun b hb => Below.heap_alloc w _ b hb
  have halt : ∀ (ls : LS) (b : Nat), b < wD.heap.size → (W1.putObj wD.heap.size (.loop (Loop.as r0 ls))).heap[b]? = wD.heap[b]? := fun ls b hb => (World.putObj_heap_other (by omega)).trans (hh1 b hb)
  let B2 : Base := {
    alt := fun ls => W1.putObj wD.heap.size (.loop (Loop.as r0 ls))
    S := fun b => ∃ n, live (st.hp ++ [some .dfr]) n ∧ blk (ρ' n) = some b
    Fb := fun b => B.Fb b ∨ b = wD.heap.size
    lp := wD.heap.size
    gl := B.gl
    gok := fun ls => by
      have hg := h.gls
      rw [h.g] at hg
      refine hg.step (by rw [World.putObj_size, hW]; omega) (fun b hb _ => (halt ls b (by omega)).trans (hh0 b hb)) (fun b hb hF => ?_)
      rcases hF with (hF | hF) | ⟨n, hn, hbk⟩
      . exact .inl hF
      . omega
      . rcases hlive n b hn hbk with ⟨_, e⟩ | ⟨h1, h2⟩
        . omega
        . exact .inr ⟨n, h1, h2⟩ }
  have hl2 : InLoop B2 W1 r0 := ⟨fun _ => rfl, by show wD.heap.size < W1.heap.size; omega, .inr rfl⟩
  have own1 : ∀ n b, live st.hp n → blk (ρ n) = some b → b < w.heap.size ∧ ((B.alt .no).heap.size ≤ b ∨ B.S b) ∧ ¬ B.Fb b := fun n b hn hb => by
    refine ⟨h.h.live_block hn hb, ?_⟩
    have := h.h.own n b hn hb
    rw [hls] at this
    exact this
  have hfb1 : ∀ b, B.Fb b → b < w.heap.size := fun b hb => Nat.lt_of_lt_of_le (h.h.fb b hb).1 h.h.kept.size
  have hny1 : ({ st with hp := st.hp ++ [some .dfr] } : St).ny = true := by
    simp only [St.ny, Bool.and_eq_true] at hny ⊢
    refine ⟨hny.1, ?_⟩
    rw [List.all_append, Bool.and_eq_true]
    exact ⟨hny.2, rfl⟩
  have hR2 : StRel B2 ρ' { st with hp := st.hp ++ [some .dfr], ls := .ready } a fs W1 := by
    refine hR1.over (B' := B2) hny1 ⟨by show wD.heap.size ≤ W1.heap.size; omega, fun b hb _ => hh1 b hb, fun b hb hF => ?_, Nat.le_refl _, fun _ _ => rfl⟩ .ready ?_ (fun n b hn hb => ?_) (fun n b hn hb => ?_) (fun b hb => ?_) rfl
    . rcases hF with (hF | hF) | hF
      . exact .inl hF
      . simp only at hb; omega
      . exact .inr hF
    . refine ⟨rfl, rfl, rfl, by show (W1.putObj _ _).heap.size ≤ _; rw [World.putObj_size]; exact Nat.le_refl _, fun b hb _ => ?_⟩
      by_cases e : b = wD.heap.size
      . subst e
        show W1.heap[wD.heap.size]? = (W1.putObj _ _).heap[wD.heap.size]?
        rw [World.putObj_heap_same (by omega)]
        exact World.alloc_heap_new wD _
      . exact (World.putObj_heap_other e).symm
    . rcases hlive n b hn hb with ⟨_, e⟩ | ⟨h1, h2⟩
      . exact hh1 b (by omega)
      . exact hh1 b (by have := (own1 n b h1 h2).1; omega)
    . refine ⟨.inr ⟨n, hn, hb⟩, ?_⟩
      rcases hlive n b hn hb with ⟨_, e⟩ | ⟨h1, h2⟩
      . rintro (hF | hF)
        . have := hfb1 b hF; omega
        . omega
      . obtain ⟨h3, _, h4⟩ := own1 n b h1 h2
        rintro (hF | hF)
        . exact h4 hF
        . omega
    . refine ⟨?_, ?_⟩
      . show b < (W1.putObj _ _).heap.size
        rw [World.putObj_size, hW]
        rcases hb with hF | hF
        . have := hfb1 b hF; omega
        . omega
      . rintro ⟨n, hn, hbk⟩
        rcases hlive n b hn hbk with ⟨_, e⟩ | ⟨h1, h2⟩
        . rcases hb with hF | hF
          . have := hfb1 b hF; omega
          . omega
        . obtain ⟨h3, _, h4⟩ := own1 n b h1 h2
          rcases hb with hF | hF
          . exact h4 hF
          . omega
  let a2 : Act := { a with defers := { target := .collected w.heap.size, args := #[] } :: a.defers }
  have hR3 : StRel B2 ρ' { st with hp := st.hp ++ [some .dfr], df := .mark st.hp.length :: st.df, ls := .ready } a2 fs W1 :=
    ⟨hR2.h, hR2.s, hR2.kn, hR2.k, ⟨_, _, rfl, by simp, hρm, hR2.d⟩, hR2.g⟩
  have hcr2 : SV.rels (cx B2 ρ' (st.hp ++ [some .dfr]) W1) (.yld :: cap) (.func (.yield wD.heap.size) #[] #[] :: cvs) := by
    refine ⟨_, _, rfl, rfl, ?_⟩
    have h1 : SV.rels (cx B ρ' (st.hp ++ [some .dfr]) wD) cap cvs := SV.rels.le T.le hcr
    refine SV.rels.le (C := (cx B ρ' (st.hp ++ [some .dfr]) wD).wl wD.heap.size) (C' := cx B2 ρ' (st.hp ++ [some .dfr]) W1) ⟨by show wD.heap.size ≤ W1.heap.size; omega, fun b hb _ => hh1 b hb, fun b hb hF => ?_, Nat.le_refl _, fun _ _ => rfl, rfl⟩ (SV.rels.wl hnc h1)
    rcases hF with (hF | hF) | hF
    . exact .inl hF
    . have : b < wD.heap.size := hb
      omega
    . exact .inr hF
  have hB2 : B2.gl = gl := hB
  have hyo : YieldOk E.P B2 (a2 :: fs) (vcRound A Bd st.n ps.toList) := round_sound hl2 (hA B2 hB2) (hBd B2 hB2) rfl rfl rfl rfl h.s.1
  obtain ⟨henter, hseq⟩ := hE.seq f q hq
  have hcalls := hseq _ _ _ _ _ B2 ρ' a2 fs W1 _ hB2 hyo hk hR3 hcr2
  refine ⟨wD.heap.size, [{ target := .collected w.heap.size, args := #[] }], W1, { target := .fn (.func f) cvs.toArray, args := #[.func (.yield wD.heap.size) #[] #[]] }, W1, f, (.func (.yield wD.heap.size) #[] #[] :: cvs).toArray, W1, ?_, ?_, fun _ _ => trivial, ?_, fun h => (by cases h), ?_⟩
  . have := run_enterLoop_outer (P := E.P) (w := w) fn a.tmps ps assign body
    rw [← hD] at this
    exact this
  . have hc : ∀ v : Value, a.eval (.const v) = v := fun _ => rfl
    simp [resolve, rangeCall, hge, hc, Deferred.ofValue]
  . simp only [invoke]
    rw [henter]
    congr 2
    simp
  . have h3 : CallsIn Fence.wide 0 E.P _ _ _ _ := callsIn_wide.2 hcalls
    refine CallsIn.mono (F := fen none) h3 (fun e w3 hw => ?_)
    cases e with
    | panicked ch => obtain ⟨_, _, _, _, _, hk2, _⟩ := hw; exact hk2.elim
    | outgrown => exact hw.elim
    | returned v =>
      obtain ⟨s, st3, ρ3, hk3, hR4, _⟩ := hw
      unfold St.loopOut at hk3
      split at hk3
      case isFalse => exact hk3.elim
      rename_i hny3
      have hat := hR4.rec_at hl2
      -- the way back
      have back : ∀ r : Loop, StRel B ρ3 { st3 with ls := .no } a2 fs (w3.putObj wD.heap.size (.loop r)) := by
        intro r
        have hk4 := hR4.h.kept
        have hsz : w.heap.size + 2 ≤ w3.heap.size := by
          have := hk4.size
          have h5 : (B2.alt st3.ls).heap.size = W1.heap.size := World.putObj_size
          omega
        have low : ∀ b, b < w.heap.size → (¬ ∃ n, live st.hp n ∧ blk (ρ n) = some b) → w3.heap[b]? = w.heap[b]? := fun b hb hn => by
          have h6 := hk4.block b (by show b < (W1.putObj _ _).heap.size; rw [World.putObj_size, hW]; omega) (by
            rintro ⟨n, h7, h8⟩
            rcases hlive n b h7 h8 with ⟨_, e⟩ | ⟨h9, h10⟩
            . omega
            . exact hn ⟨n, h9, h10⟩)
          rw [h6]
          exact (halt st3.ls b (by omega)).trans (hh0 b hb)
        refine hR4.over (B' := B) hny3 ⟨by simp, fun b hb hF => World.putObj_heap_other (fun e => hF (.inl (.inr e))), fun b _ hF => ?_, Nat.le_refl _, fun _ _ => rfl⟩ .no ?_ (fun n b hn hb => World.putObj_heap_other (fun e => (hR4.h.own n b hn hb).2 (.inr e))) (fun n b hn hb => ?_) (fun b hb => ?_) rfl
        . rcases hF with hF | hF
          . exact .inl (.inl hF)
          . exact .inr hF
        . have h9 := h.h.kept
          rw [hls] at h9
          refine ⟨hk4.os.trans h9.os, hk4.tape.trans h9.tape, hk4.output.trans h9.output, by show _ ≤ (w3.putObj _ _).heap.size; rw [World.putObj_size]; exact Nat.le_trans h9.size (by omega), fun b hb hn => ?_⟩
          have hbw : b < w.heap.size := Nat.lt_of_lt_of_le hb h9.size
          refine (show (w3.putObj wD.heap.size (.loop r)).heap[b]? = _ from (World.putObj_heap_other (by omega)).trans ((low b hbw ?_).trans (h9.block b hb hn)))
          rintro ⟨n, h10, h11⟩
          rcases (own1 n b h10 h11).2.1 with h12 | h12
          . omega
          . exact hn h12
        . obtain ⟨h10, h11⟩ := hR4.h.own n b hn hb
          have h9 := h.h.kept.size
          rw [hls] at h9
          refine ⟨?_, fun hF => h11 (.inl hF)⟩
          rcases h10 with h10 | ⟨m, h12, h13⟩
          . have h5 : (B2.alt st3.ls).heap.size = W1.heap.size := World.putObj_size
            exact .inl (by omega)
          . rcases hlive m b h12 h13 with ⟨_, e⟩ | ⟨h14, h15⟩
            . exact .inl (by omega)
            . exact (own1 m b h14 h15).2.1
        . have := h.h.fb b hb
          rw [hls] at this
          exact this
      split at hk3
      . rename_i e
        refine ⟨none, w3.putObj wD.heap.size (.loop { Loop.as r0 LS.ready with state := .exhausted }), ?_, _, ρ3, hk3, back _⟩
        have := run_endLoop (P := E.P) hat (by rw [e]; simp [Loop.as])
        rw [e] at this
        exact this
      . rename_i e
        refine ⟨some .ret, w3.putObj wD.heap.size (.loop { Loop.as r0 (LS.done .ret) with state := .exhausted }), ?_, wpIn_ret ⟨_, ρ3, hk3, back _⟩⟩
        have := run_endLoop (P := E.P) hat (by rw [e]; simp [Loop.as])
        rw [e] at this
        exact this
      . rename_i id e
        refine ⟨some (.exit id), w3.putObj wD.heap.size (.loop { Loop.as r0 (LS.done (.exit id)) with state := .exhausted }), ?_, wpIn_exit ⟨_, ρ3, hk3, back _⟩⟩
        have := run_endLoop (P := E.P) hat (by rw [e]; simp [Loop.as])
        rw [e] at this
        exact this
      . exact hk3.elim
theorem vcCode_sound {gl : Gl} : ∀ (c : Code) {E : Env} (hE : E.Ok gl) {B : Base} (hB : B.gl = gl) {fs : List Act} (hy : ∀ hd, E.yld = some hd → YieldOk E.P B fs hd) {r : Option Nat} (hr : E.rnd = false → r = none) {ρ : Nat → Value} {st : St} {a : Act} {w : World} {k : Ex → St → Prop},
    vcCode H c E st k → StRel B ρ st a fs w → c.wpIn (fen r) 0 E.P (CPost B fs k) a w
  | .skip, E, hE, B, hB, fs, hy, r, hr, ρ, st, a, w, k, hk, h => wpIn_skip ⟨st, ρ, hk, h⟩
  | .region id ops draw, E, hE, B, hB, fs, hy, r, hr, ρ, st, a, w, k, hk, h => by
    simp only [vcCode] at hk
    cases draw with
    | true =>
      rw [if_pos rfl] at hk
      exact vcDraw_sound hE hB CPost.noOut hk h (fun st' ρ' a' w' hn hr => ⟨_, _, hn, hr.trim _⟩) (fun s st' ρ' v a' w' hp hr hv => ⟨v, s, st', ρ', rfl, hp, hr, hv⟩)
    | false =>
      rw [if_neg (by simp)] at hk
      exact wpIn_region_list (gList_inn (vcOps_sound (L := Lg.inn E.P r) hE hB (fun hd he => ⟨trivial, hy hd he⟩) hr _ hk h (fun st' ρ' a' w' hn hr => ⟨_, _, hn, hr.trim _⟩) (fun s st' ρ' v a' w' hp hr hv => ⟨v, s, st', ρ', rfl, hp, hr, hv⟩)))
  | .seq x y, E, hE, B, hB, fs, hy, r, hr, ρ, st, a, w, k, hk, h => by
    simp only [vcCode] at hk
    split at hk
    . obtain ⟨J, h1, h2⟩ := hk
      refine wpIn_seq (wpIn_mono (vcCode_sound x hE hB hy hr h1 h) (fun e a' w' hq => ?_))
      cases e with
      | normal =>
        obtain ⟨st', ρ', h3, h4⟩ := hq
        simp only at h3
        split at h3
        case isFalse => exact h3.elim
        rename_i hn
        obtain ⟨ρ2, u, z, hJ, hu, hz, hr2⟩ := fitK_sound h4 h3
        exact vcCode_sound y hE hB hy hr (h2 u z hu hz hJ) (by simpa [headSt, hn, h4.g, h.g] using hr2)
      | exit id => exact hq
      | ret => exact hq
      | panic ch => exact hq
      | goto l => exact hq.elim
      | outgrown => exact hq.elim
    refine wpIn_seq (wpIn_mono (vcCode_sound x hE hB hy hr hk h) (fun e a' w' hq => ?_))
    cases e with
    | normal => obtain ⟨st', ρ', h1, h2⟩ := hq; exact vcCode_sound y hE hB hy hr h1 h2
    | exit id => exact hq
    | ret => exact hq
    | panic ch => exact hq
    | goto l => exact hq.elim
    | outgrown => exact hq.elim
  | .cond c x y, E, hE, B, hB, fs, hy, r, hr, ρ, st, a, w, k, hk, h => by
    simp only [vcCode] at hk
    have hc := ev_rel h c
    split at hk
    . rename_i b hb
      rw [hb] at hc
      have hc := VRep_bool.1 hc
      have kno : ∀ b', b = b' → StRel B ρ (st.knowOp c b') a fs w := by
        intro b' e
        unfold St.knowOp
        split
        . subst e
          exact knowT h hb hc
        . exact h
      exact wpIn_cond_split hc (fun e => vcCode_sound x hE hB hy hr (hk.1 e) (kno true e)) (fun e => vcCode_sound y hE hB hy hr (hk.2 e) (kno false e))
    . rename_i hb
      rw [hb] at hc
      exact wpIn_cond_true hc (vcCode_sound x hE hB hy hr hk h)
    . rename_i hb
      rw [hb] at hc
      exact wpIn_cond_false hc (vcCode_sound y hE hB hy hr hk h)
    . exact hk.elim
  | .block id c, E, hE, B, hB, fs, hy, r, hr, ρ, st, a, w, k, hk, h => by
    refine wpIn_block (wpIn_mono (vcCode_sound c hE hB hy hr hk h) (fun e a' w' hq => ?_))
    cases e with
    | normal => exact hq
    | exit j =>
      obtain ⟨st', ρ', h1, h2⟩ := hq
      simp only [Exit.inBlock]
      simp only at h1
      split
      . rename_i e; rw [if_pos e] at h1; exact ⟨st', ρ', h1, h2⟩
      . rename_i e; rw [if_neg e] at h1; exact ⟨st', ρ', h1, h2⟩
    | ret => exact hq
    | panic ch => exact hq
    | goto l => exact hq.elim
    | outgrown => exact hq.elim
  | .loop c, E, hE, B, hB, fs, hy, r, hr, ρ, st, a, w, k, hk, h => by
    simp only [vcCode] at hk
    split at hk
    . rename_i m _
      refine wp_loop_rel (fun n a w => ∃ ρ st', vcRounds (fun st k => vcCode H c E st k) n st' k ∧ StRel B ρ st' a fs w) m ⟨ρ, st, hk, h⟩ ?_
      rintro n a w ⟨ρ, st', h1, h2⟩
      cases n with
      | zero => exact h1.elim
      | succ n =>
        refine wpIn_mono (vcCode_sound c hE hB hy hr h1 h2) (fun e a' w' hq => ?_)
        cases e with
        | normal =>
          obtain ⟨st2, ρ2, h3, h4⟩ := hq
          exact ⟨n, Nat.lt_succ_self n, ρ2, st2, h3, h4⟩
        | exit id => exact hq
        | ret => exact hq
        | panic ch => exact hq
        | goto l => exact hq.elim
        | outgrown => exact hq.elim
    obtain ⟨I, μ, h0, hround⟩ := hk
    obtain ⟨ρ0, y0, z0, hI0, hwy, hwz, hr0⟩ := fitK_sound h h0
    refine wp_loop_rel (fun n a w => ∃ ρ y z, n = μ y z ∧ I y z ∧ PE.wf _ y ∧ OE.wf _ z ∧ StRel B ρ (headSt st _ _ (cleanStk st.stk) st.df st.ls y z) a fs w) (μ y0 z0) ⟨ρ0, y0, z0, rfl, hI0, hwy, hwz, hr0⟩ ?_
    rintro n a w ⟨ρ, y, z, rfl, hI, hyw, hz, hrel⟩
    refine wpIn_mono (vcCode_sound c hE hB hy hr (hround y z hyw hz hI) hrel) (fun e a' w' hq => ?_)
    cases e with
    | normal =>
      obtain ⟨st', ρ', h1, h2⟩ := hq
      simp only at h1
      split at h1
      case isFalse => exact h1.elim
      rename_i hn
      obtain ⟨ρ2, y2, z2, ⟨hI2, hlt⟩, hy2, hz2, hr2⟩ := fitK_sound h2 h1
      exact ⟨_, hlt, ρ2, y2, z2, rfl, hI2, hy2, hz2, by simpa [headSt, hn, h2.g, h.g] using hr2⟩
    | exit id => exact hq
    | ret => exact hq
    | panic ch => exact hq
    | goto l => exact hq.elim
    | outgrown => exact hq.elim
  | .exit id, E, hE, B, hB, fs, hy, r, hr, ρ, st, a, w, k, hk, h => wpIn_exit ⟨st, ρ, hk, h⟩
  | .scope c, E, hE, B, hB, fs, hy, r, hr, ρ, st, a, w, k, hk, h => by
    refine wpIn_scope (wpIn_mono (vcCode_sound c hE hB hy hr hk h) (fun e a' w' hq => ?_))
    cases e <;> first | exact hq | exact hq.elim
  | .label l, E, hE, B, hB, fs, hy, r, hr, ρ, st, a, w, k, hk, h => wpIn_label ⟨st, ρ, hk, h⟩
  | .ret, E, hE, B, hB, fs, hy, r, hr, ρ, st, a, w, k, hk, h => wpIn_ret ⟨st, ρ, hk, h⟩
  | .rangeFunc g ps assign body, E, hE, B, hB, fs, hy, r, hr, ρ, st, a, w, k, hk, h => by
    simp only [vcCode] at hk
    split at hk
    . exact hk.elim
    rename_i hrnd
    have hr0 := hr (by simpa using hrnd)
    subst hr0
    split at hk
    . rename_i f cap hls hev
      split at hk
      . rename_i q hq
        split at hk
        . rename_i hny
          simp only [Bool.and_eq_true] at hny
          refine range_sound2 hE hB h hls hev hq hny.1 hny.2 (fun B' hB' => ?_) (fun B' hB' => ?_) hk
          . intro st' a' w' ρ' k' a1 hk' h'
            exact vcCode_sound assign (E := E.inRound) ⟨hE.ty, hE.fn, hE.seq, hE.df, hE.mixed⟩ hB' (fun hd he => by cases he) (fun he => by cases he) hk' h'
          . intro st' a' w' ρ' k' a1 hk' h'
            exact vcCode_sound body (E := E.inRound) ⟨hE.ty, hE.fn, hE.seq, hE.df, hE.mixed⟩ hB' (fun hd he => by cases he) (fun he => by cases he) hk' h'
        . exact hk.elim
      . exact hk.elim
    . exact hk.elim
  | .goto _, E, hE, B, hB, fs, hy, r, hr, ρ, st, a, w, k, hk, h => by simp only [vcCode] at hk
  | .refuse _, E, hE, B, hB, fs, hy, r, hr, ρ, st, a, w, k, hk, h => by simp only [vcCode] at hk
end
end Go.Vc
end
section
namespace Go.Vc
open Go.RowKit
def enumFrom : Nat → List SV → Slots
  | _, [] => []
  | i, s :: l => (i, s) :: enumFrom (i + 1) l
def St.push (st : St) (n : Nat) (args : List SV) : St := { n := n, sl := enumFrom 0 args, kn := [], stk := (st.sl, st.df) :: st.stk, hp := st.hp, df := [], ls := st.ls, gl := st.gl }
def St.pop (st0 st : St) : Option St :=
  match st.stk with
  | (sl, df) :: r => some { n := st0.n, sl := sl, kn := st0.kn, stk := r, hp := st.hp, df := df, ls := st.ls, gl := st.gl }
  | [] => none
def resSV (E : Ty) (st : St) : List ResultVar → Option (List Prop × List SV)
  | [] => some ([], [])
  | .tmp t :: l => match resSV E st l with
    | some (o, r) => some (o, st.ev (.tmp t) :: r)
    | none => none
  | .cell a t :: l => match st.load E t (st.ev (.tmp a)), resSV E st l with
    | some (p, s), some (o, r) => some (p ++ o, s :: r)
    | _, _ => none
def resVal : List SV → SV
  | [s] => s
  | l => .tup l
def vcLeave (E : Env) : Nat → St → Option SV → (St → Option SV → Prop) → Prop
  | 0, st, p, K => match st.df with
    | [] => K st p
    | _ => False
  | n + 1, st, p, K => match st.df with
    | [] => K st p
    | .mark m :: l => match st.hp[m]? with
      | some (some .dfr) => vcLeave E n { st with hp := st.hp.set m none, df := l } p K
      | _ => False
    | .fn f cap :: l => match E.dfs f with
      | some d => d cap { st with df := l } p (fun st' p' => vcLeave E n st' p' K)
      | none => False
def vcOut (E : Env) (rs : List ResultVar) (st0 : St) (kv kp : SV → St → Prop) (st' : St) (p : Option SV) : Prop :=
  match p, st0.pop st' with
  | none, some st'' => match resSV E.toTy st' rs with
    | some (o, l) => conj o (kv (resVal l) st'')
    | none => False
  | some s, some st'' => kp s st''
  | _, none => False
def vcFn (E : Env) (H : Hints) (n : Nat) (rs : List ResultVar) (body : Code) : CallSem := fun args st kv kp =>
  if args.length ≤ n then
    vcCode H body E (st.push n args) fun e st' => match e with
      | .normal => vcLeave E st'.df.length st' none (vcOut E rs st kv kp)
      | .ret => vcLeave E st'.df.length st' none (vcOut E rs st kv kp)
      | .pan s => vcLeave E st'.df.length st' (some s) (vcOut E rs st kv kp)
      | .exit _ => False
  else False
def vcSeq (E : Env) (H : Hints) (n : Nat) (rs : List ResultVar) (body : Code) : CallSem → CallSem := fun h => vcFn { E with yld := some h } H n rs body
def isRecover (o : Oper) : Bool :=
  match o.op, o.guard with
  | .call c, none => (match c.callee with | .builtin .recover => true | _ => false) && c.args.isEmpty
  | _, _ => false
def recSV : Option SV → SV
  | some s => s
  | none => .cst .nilIface
def vcRec (H : Hints) : Code → Env → St → Option SV → (Ex → St → Prop) → Prop
  | .seq x y, E, st, p, k => vcRec H x E st p fun e st' => match e with
    | .normal => vcCode H y E st' k
    | _ => False
  | .region _ ops false, E, st, p, k => match ops.toList with
    | o :: rest => if isRecover o then st.setK o.dst (recSV p) fun st1 => vcStill E rest st1 fun st2 => k .normal (st2.trim E.keep) else False
    | [] => False
  | _, _, _, _, _ => False
def vcDef (E : Env) (H : Hints) (n : Nat) (rs : List ResultVar) (body : Code) : DefSem := fun cap st p K =>
  if cap.length ≤ n then
    vcRec H body E (st.push n cap) p fun e st' => match e with
      | .normal => match st'.df, st.pop st', rs with
        | [], some st'', [] => K st'' none
        | _, _, _ => False
      | .ret => match st'.df, st.pop st', rs with
        | [], some st'', [] => K st'' none
        | _, _, _ => False
      | _ => False
  else False
theorem lookup_enumFrom : ∀ (l : List SV) (k i : Nat) (s : SV), (enumFrom k l).lookup i = some s → k ≤ i ∧ l[i - k]? = some s
  | [], _, _, _, h => by cases h
  | t :: l, k, i, s, h => by
    simp only [enumFrom] at h
    rw [lookup_cons] at h
    split at h
    . rename_i e
      cases h
      subst e
      simp
    . rename_i e
      obtain ⟨h1, h2⟩ := lookup_enumFrom l (k + 1) i s h
      refine ⟨by omega, ?_⟩
      rw [show i - k = (i - (k + 1)) + 1 by omega, List.getElem?_cons_succ]
      exact h2
def resF (tmps : Array Value) : ResultVar → Sem Value
  | .tmp t => pure (tmps.getD t undef)
  | .cell a t => do loadVar t (← asAddr (tmps.getD a undef))
theorem loadAt_ok {P : Program} {t : Nat} {v v' : Value} {w : World} (h : (Instr.loadAt t v).run P w = .ok v' w) : (do loadVar t (← asAddr v) : Sem Value).run P w = .ok v' w := by
  unfold Instr.loadAt Instr.sureAddr at h
  unfold asAddr
  cases v with
  | pointer a =>
    cases a with
    | some a => simpa [Sem.run_bind] using h
    | none => simp [Sem.run_bind, Result.andThen, stuck] at h
  | _ => simp [Sem.run_bind, Result.andThen, stuck] at h
theorem resVal_rel {C : Cx} {l : List SV} {vs : List Value} (h : SV.rels C l vs) : (resVal l).rel C (if h : vs.toArray.size = 1 then vs.toArray[0] else .tuple vs.toArray) := by
  match l, vs, h with
  | [], vs, h =>
    obtain rfl : vs = [] := h
    exact ⟨[], rfl, rfl⟩
  | [s], vs, h =>
    obtain ⟨v, r, rfl, h1, h2⟩ := h
    obtain rfl : r = [] := h2
    exact h1
  | s :: s' :: l, vs, h =>
    have hh := h
    obtain ⟨v, r, rfl, h1, v', r', rfl, h2, h3⟩ := h
    exact ⟨_, by simp, hh⟩
section
variable {E : Env} {gl : Gl} {H : Hints} {B : Base} {ρ : Nat → Value} {st : St} {a : Act} {fs : List Act} {w : World}
theorem push_rel (h : StRel B ρ st a fs w) {args : List SV} {vs : List Value} (hr : SV.rels (cx B ρ st.hp w) args vs) {n : Nat} (hn : args.length ≤ n) :
    StRel B ρ (st.push n args) { tmps := vs.toArray ++ Array.replicate (n - vs.toArray.size) undef, defers := [] } (a :: fs) w := by
  have hl := rels_length hr
  refine ⟨h.h, ⟨?_, fun i s hs => ?_⟩, (fun t b hb => by cases hb), ⟨a, fs, rfl, ⟨rfl, fun i s hs => ?_⟩, h.d, h.k⟩, rfl, h.g⟩
  . simp [St.push]; omega
  . obtain ⟨_, h2⟩ := lookup_enumFrom args 0 i s hs
    obtain ⟨v, hv, hrel⟩ := rels_get hr h2
    have hi := (List.getElem?_eq_some_iff.1 hv).1
    simp only [Nat.sub_zero] at hv hi
    refine ⟨by show i < n; omega, ?_⟩
    rw [Array.getD_eq_getD_getElem?, Array.getElem?_append_left (by simpa using hi)]
    simp only [List.getElem?_toArray, hv, Option.getD_some]
    exact hrel
  . have := h.s.2 i s hs
    rw [h.s.1]
    exact this
theorem pop_rel {st' st'' : St} {a' : Act} {ρ' : Nat → Value} {w' : World} (h : StRel B ρ st a fs w) (hp : st.pop st' = some st'') (h' : StRel B ρ' st' a' (a :: fs) w') : StRel B ρ' st'' a fs w' := by
  unfold St.pop at hp
  split at hp
  . rename_i sl df r e
    cases hp
    have hk := h'.k
    rw [e] at hk
    obtain ⟨t, rr, e2, h1, h3, h2⟩ := hk
    cases e2
    exact ⟨h'.h, by rw [← h.s.1]; exact h1, h.kn, h2, h3, h'.g⟩
  . cases hp
theorem resSV_rel (hE : E.toTy.Ok) : ∀ {rs : List ResultVar} {o : List Prop} {l : List SV}, resSV E.toTy st rs = some (o, l) → StRel B ρ st a fs w → (∀ p ∈ o, p) →
    ∃ vs, (rs.mapM (resF a.tmps)).run E.P w = .ok vs w ∧ SV.rels (cx B ρ st.hp w) l vs
  | [], o, l, h, hr, ho => by
    simp only [resSV, Option.some.injEq, Prod.mk.injEq] at h
    obtain ⟨rfl, rfl⟩ := h
    exact ⟨[], rfl, rfl⟩
  | .tmp t :: rs, o, l, h, hr, ho => by
    simp only [resSV] at h
    split at h
    . rename_i o' r e
      cases h
      obtain ⟨vs, h1, h2⟩ := resSV_rel hE e hr ho
      refine ⟨a.tmps.getD t undef :: vs, ?_, _, _, rfl, ev_rel hr (.tmp t), h2⟩
      simp only [List.mapM_cons, resF, Sem.run_bind, Sem.run_pure, Result.andThen_ok, h1]
    . cases h
  | .cell b t :: rs, o, l, h, hr, ho => by
    simp only [resSV] at h
    split at h
    . rename_i p s o' r e0 e
      cases h
      obtain ⟨vs, h1, h2⟩ := resSV_rel hE e hr (fun q hq => ho q (List.mem_append_right _ hq))
      obtain ⟨v', h3, h4⟩ := load_sound hE hr e0 (fun q hq => ho q (List.mem_append_left _ hq)) (ev_rel hr (.tmp b))
      refine ⟨v' :: vs, ?_, _, _, rfl, h4, h2⟩
      have hl : (resF a.tmps (.cell b t)).run E.P w = .ok v' w := loadAt_ok h3
      simp only [List.mapM_cons, Sem.run_bind, hl, Result.andThen_ok, h1, Sem.run_pure]
    . cases h
theorem pop_hp {st' st'' : St} (e : st.pop st' = some st'') : st''.hp = st'.hp := by
  unfold St.pop at e
  split at e
  . cases e; rfl
  . cases e
theorem ORel.le {C C' : Cx} (h : C.le C') {p : Option SV} {o : Option Value} (hr : ORel C p o) : ORel C' p o := by
  cases p with
  | none => exact hr
  | some s => obtain ⟨v, e, h1⟩ := hr; exact ⟨v, e, h1.le h⟩
theorem StRel.kill (h : StRel B ρ st a fs w) {m b : Nat} {o : Ob} (ho : st.hp[m]? = some (some o)) (hb : ρ m = .pointer (some ⟨b, 0, none⟩)) (x : Obj) :
    StRel B ρ { st with hp := st.hp.set m none } a fs (w.putObj b x) ∧ (cx B ρ st.hp w).le (cx B ρ (st.hp.set m none) (w.putObj b x)) := by
  have hlt := (List.getElem?_eq_some_iff.1 ho).1
  have hdead : ¬ live (st.hp.set m none) m := by
    rintro ⟨o2, ho2⟩
    rw [List.getElem?_set_self hlt] at ho2
    cases ho2
  have T : Turn B ρ ρ st.hp (st.hp.set m none) w (w.putObj b x) m (some b) := {
    N := by simp
    rho := fun _ _ => rfl
    other := fun m' o' hm ho' => by rwa [List.getElem?_set_ne (Ne.symm hm)] at ho'
    mod := fun c hc => by cases hc; exact ⟨m, ⟨o, ho⟩, by rw [hb]; rfl, .inl rfl⟩
    gw := ⟨rfl, rfl, rfl, by simp, fun k hk hne => World.putObj_heap_other (fun e => hne (by rw [e]))⟩
    bl := fun c hc _ => absurd hc hdead }
  exact ⟨h.turn T (fun o' ho' => absurd ⟨o', ho'⟩ hdead), T.le⟩
theorem modeOf_ne (o : Option Value) : modeOf o ≠ .run := by cases o <;> simp [modeOf]
theorem callsDIn_mono {F : Fence} {n : Nat} {P : Program} {f : FuncId} {args : Array Value} {u : FrameMode} {w : World} {R R' : Ending → FrameMode → World → Prop}
    (h : CallsDIn F n P f args u w R) (hr : ∀ e u' w', R e u' w' → R' e u' w') : CallsDIn F n P f args u w R' :=
  ⟨h.1, fun c cs hu hroom => let ⟨e, u', w', fr, r, rest⟩ := h.2 c cs hu hroom; ⟨e, u', w', fr, hr _ _ _ r, rest⟩⟩
theorem leave_sound (hE : E.Ok gl) (hB : B.gl = gl) {fn : Func} {R : Ending → World → Prop} {K : St → Option SV → Prop} {tmps : Array Value}
    (hK : ∀ st p ρ w o, K st p → StRel B ρ st { tmps := tmps, defers := [] } fs w → ORel (cx B ρ st.hp w) p o → (match o with
      | none => ∃ v, (results fn tmps).run E.P w = .ok v w ∧ R (.returned v) w
      | some v => R (.panicked [{ v := v, recovered := false }]) w)) :
    ∀ (n : Nat) {st : St} {p : Option SV} {ρ : Nat → Value} {ds : List Deferred} {w : World} {o : Option Value}, vcLeave E n st p K → StRel B ρ st { tmps := tmps, defers := ds } fs w → ORel (cx B ρ st.hp w) p o →
      LeavesInM Fence.wide 0 E.P fn tmps R ds (modeOf o) w := by
  have nil : ∀ {st : St} {p : Option SV} {ρ : Nat → Value} {ds : List Deferred} {w : World} {o : Option Value}, st.df = [] → K st p → StRel B ρ st { tmps := tmps, defers := ds } fs w → ORel (cx B ρ st.hp w) p o →
      LeavesInM Fence.wide 0 E.P fn tmps R ds (modeOf o) w := by
    intro st p ρ ds w o e hk h ho
    have hd := h.d
    rw [e] at hd
    have hd : ds = [] := hd
    subst hd
    have := hK st p ρ w o hk h ho
    cases o with
    | none => exact this
    | some v => exact this
  intro n
  induction n with
  | zero =>
    intro st p ρ ds w o hk h ho
    unfold vcLeave at hk
    split at hk
    . rename_i e; exact nil e hk h ho
    . exact hk.elim
  | succ n ih =>
    intro st p ρ ds w o hk h ho
    unfold vcLeave at hk
    split at hk
    . rename_i e; exact nil e hk h ho
    . rename_i m l e
      split at hk
      . rename_i hm
        have hd := h.d
        rw [e] at hd
        obtain ⟨b, r, e1, hlt, hρ, hd2⟩ := hd
        have e1 : ds = _ := e1
        subst e1
        have hρ : ρ m = _ := hρ
        obtain ⟨b', hb', hbk⟩ := h.h.obj m _ hm
        rw [hρ] at hb'
        cases hb'
        obtain ⟨h1, h2⟩ := h.kill hm hρ (.deferred none)
        refine ⟨modeOf_ne o, .inl ⟨b, _, rfl, run_takeDeferred hbk, ?_⟩⟩
        exact ih hk ⟨h1.h, h1.s, h1.kn, h1.k, hd2.le h2, h1.g⟩ (ho.le h2)
      . exact hk.elim
    . rename_i f cap l e
      split at hk
      . rename_i d hf
        have hd := h.d
        rw [e] at hd
        obtain ⟨vs, r, e1, hcr, hd2⟩ := hd
        have e1 : ds = _ := e1
        subst e1
        obtain ⟨henter, hcall⟩ := hE.df f d hf
        have h' : StRel B ρ { st with df := l } { tmps := tmps, defers := r } fs w := ⟨h.h, h.s, h.kn, h.k, hd2, h.g⟩
        refine ⟨modeOf_ne o, .inr ⟨fun h => (by cases h), .func f, vs.toArray, f, vs.toArray, rfl, ?_, fun _ _ => trivial, ?_⟩⟩
        . simp only [invoke]
          rw [henter]
          congr 2
          simp
        . refine callsDIn_mono (hcall _ _ _ _ B ρ _ fs w vs o hB hk h' hcr ho) (fun en u w' hw => ?_)
          cases en with
          | returned v =>
            obtain ⟨st', p', ρ', o', h1, h2, h3, h4⟩ := hw
            dsimp only
            rw [h4]
            exact ih h1 h2 h3
          | panicked ch => exact hw.elim
          | outgrown => exact hw.elim
      . exact hk.elim
theorem fn_sound (hE : E.Ok gl) {f : Nat} {fn : Func} {body : Code} (hf : E.P.funcs[f]? = some fn) (hb : fn.body = some body) (hrnd : E.rnd = false) (hB : B.gl = gl) (hy : ∀ hd, E.yld = some hd → YieldOk E.P B (a :: fs) hd)
    {args : List SV} {vs : List Value} {kv kp : SV → St → Prop} (hc : vcFn E H fn.ntmps fn.results.toList body args st kv kp) (h : StRel B ρ st a fs w) (hr : SV.rels (cx B ρ st.hp w) args vs) : Calls E.P f vs.toArray w (CallPost B a fs kv kp) := by
  unfold vcFn at hc
  split at hc
  . rename_i hlen
    refine callsIn_wide.1 (callsIn_of_wp_marks (F := Fence.wide) (n := 0) hf hb trivial (wpIn_mono (vcCode_sound body hE hB hy (r := none) (fun _ => rfl) hc (push_rel h hr hlen)) (fun e a' w' hq => ?_)))
    have out : ∀ {st' : St} {p : Option SV} {ρ' : Nat → Value} {w' : World} {o : Option Value}, vcOut E fn.results.toList st kv kp st' p → StRel B ρ' st' { tmps := a'.tmps, defers := [] } (a :: fs) w' → ORel (cx B ρ' st'.hp w') p o → (match o with
        | none => ∃ v, (results fn a'.tmps).run E.P w' = .ok v w' ∧ CallPost B a fs kv kp (.returned v) w'
        | some v => CallPost B a fs kv kp (.panicked [{ v := v, recovered := false }]) w') := by
      intro st' p ρ' w' o hk hr' ho
      unfold vcOut at hk
      split at hk
      . rename_i st'' e2
        have ho : o = none := ho
        subst ho
        split at hk
        . rename_i o l e1
          obtain ⟨ho, hk⟩ := conj_all hk
          obtain ⟨vs', h1, h2⟩ := resSV_rel hE.ty e1 hr' ho
          have h3 := pop_rel h e2 hr'
          have hres : (results fn a'.tmps).run E.P w' = .ok (if h : vs'.toArray.size = 1 then vs'.toArray[0] else .tuple vs'.toArray) w' := by
            have e : results fn a'.tmps = (do let vs ← fn.results.mapM (resF a'.tmps); pure (if h : vs.size = 1 then vs[0] else .tuple vs)) := by
              unfold results
              congr 1
            rw [e, Array.mapM_eq_mapM_toList]
            simp only [Sem.run_bind, Sem.run_map, h1, Result.andThen_ok, Sem.run_pure]
          refine ⟨_, hres, resVal l, st'', ρ', hk, h3, ?_⟩
          rw [pop_hp e2]
          exact resVal_rel h2
        . exact hk.elim
      . rename_i s st'' e2
        obtain ⟨v, rfl, hv⟩ := ho
        exact ⟨v, s, st'', ρ', rfl, hk, pop_rel h e2 hr', by rw [pop_hp e2]; exact hv⟩
      . exact hk.elim
    have leave : ∀ {st' : St} {p : Option SV} {ρ' : Nat → Value} {o : Option Value}, vcLeave E st'.df.length st' p (vcOut E fn.results.toList st kv kp) → StRel B ρ' st' a' (a :: fs) w' → ORel (cx B ρ' st'.hp w') p o →
        LeavesInM Fence.wide 0 E.P fn a'.tmps (CallPost B a fs kv kp) a'.defers (modeOf o) w' := fun hk hr' ho =>
      leave_sound hE hB (fun _ _ _ _ _ h1 h2 h3 => out h1 h2 h3) _ hk hr' ho
    cases e with
    | normal => obtain ⟨st', ρ', h1, h2⟩ := hq; exact leave (o := none) h1 h2 rfl
    | ret => obtain ⟨st', ρ', h1, h2⟩ := hq; exact leave (o := none) h1 h2 rfl
    | panic ch => obtain ⟨v, s, st', ρ', rfl, h1, h2, h3⟩ := hq; exact leave (o := some v) h1 h2 ⟨v, rfl, h3⟩
    | exit id => obtain ⟨st', ρ', h1, h2⟩ := hq; exact h1.elim
    | goto l => exact hq.elim
    | outgrown => exact hq.elim
  . exact hc.elim
theorem fn_enter {P : Program} {f : Nat} {fn : Func} {body : Code} (hf : P.funcs[f]? = some fn) (hn : (fn.name == "runtime.NumGoroutine") = false) (hb : fn.body = some body) (args : Array Value) (w : World) : (callFunc f args).run P w = .ok (.enter f args) w := by
  unfold callFunc
  have hn' : ¬ fn.name = "runtime.NumGoroutine" := by simpa using hn
  simp [Sem.run_bind, hf, hn', hb]
theorem callOk_fn (hE : E.Ok gl) {f : Nat} {fn : Func} {body : Code} (hf : E.P.funcs[f]? = some fn) (hn : (fn.name == "runtime.NumGoroutine") = false) (hb : fn.body = some body) (hq : E.yld.isNone = true) (hrnd : E.rnd = false) :
    CallOk E.P gl f (vcFn E H fn.ntmps fn.results.toList body) := fun args st kv kp B ρ a fs w vs hB hc h hr =>
  .inl ⟨fn_enter hf hn hb _ _, fn_sound hE hf hb hrnd hB (fun hd e => by rw [e] at hq; cases hq) hc h hr⟩
theorem seqOk_fn (hE : E.Ok gl) {f : Nat} {fn : Func} {body : Code} (hf : E.P.funcs[f]? = some fn) (hn : (fn.name == "runtime.NumGoroutine") = false) (hb : fn.body = some body) (hrnd : E.rnd = false) :
    SeqOk E.P gl f (vcSeq E H fn.ntmps fn.results.toList body) :=
  ⟨fn_enter hf hn hb, fun hh args st kv kp B ρ a fs w vs hB hy hc h hr =>
    fn_sound (E := { E with yld := some hh }) ⟨hE.ty, hE.fn, hE.seq, hE.df, hE.mixed⟩ hf hb hrnd hB (fun hd e => by cases e; exact hy) hc h hr⟩
theorem still_ops (hE : E.Ok gl) {ops : Array Oper} {Q : Exit → Act → List Frame → World → Prop} {cs : List Frame} {k : St → Prop} : ∀ (l : List Oper) (i : Nat) {ρ : Nat → Value} {st : St} {a : Act}, (∀ j, l[j]? = ops[i + j]?) → vcStill E l st k → StRel B ρ st a fs w →
    (∀ st' ρ' a', k st' → StRel B ρ' st' a' fs w → Q .normal a' cs w) → wpOpsSIn Fence.wide 0 E.P ops Q (List.range' i l.length) a cs w
  | [], _, ρ, st, a, _, hk, h, hn => hn st ρ a hk h
  | o :: l, i, ρ, st, a, hl, hk, h, hn => by
    have h0 : ops[i]? = some o := by simpa using (hl 0).symm
    have hl' : ∀ j, l[j]? = ops[i + 1 + j]? := fun j => by have := hl (j + 1); simpa [Nat.add_assoc, Nat.add_comm 1 j] using this
    simp only [List.length_cons, List.range'_succ, wpOpsSIn, h0]
    refine ⟨fun _ _ => trivial, ?_⟩
    simp only [vcStill] at hk
    split at hk
    . rename_i obs s hg hop
      obtain ⟨h1, h2⟩ := conj_all hk
      obtain ⟨v, h3, h4⟩ := op1_sound hE.ty h hop h1
      obtain ⟨st2, h5, h6⟩ := setK_sound h2 h h4
      rw [if_pos (by simp [Region.wanted, hg]), h3]
      exact still_ops hE l (i + 1) hl' h5 h6 hn
    . exact hk.elim
def caught (c₀ : Frame) : Option Value → Frame
  | none => c₀
  | some v => { c₀ with mode := .panicking [{ v := v, recovered := true }] }
theorem recover_of (c₀ : Frame) (cs : List Frame) (o : Option Value) (h : c₀.mode = modeOf o) : recoverD (c₀ :: cs) = o.map fun v => (v, caught c₀ o :: cs) := by
  cases o with
  | none => simp [recoverD, h, modeOf]
  | some v => simp [recoverD, h, modeOf, caught]
theorem rec_sound (hE : E.Ok gl) (hB : B.gl = gl) (hrnd : E.rnd = false) (hyn : E.yld.isNone = true) {c₀ : Frame} {cs : List Frame} {o : Option Value} (hc0 : c₀.mode = modeOf o) :
    ∀ (c : Code) {st : St} {p : Option SV} {k : Ex → St → Prop} {ρ : Nat → Value} {a : Act} {w : World}, vcRec H c E st p k → StRel B ρ st a fs w → ORel (cx B ρ st.hp w) p o →
      c.wpSIn Fence.wide 0 E.P (fun e a' cs' w' => cs' = caught c₀ o :: cs ∧ CPost B fs k e a' w') a (c₀ :: cs) w := by
  intro c
  induction c with
  | seq x y ihx ihy =>
    intro st p k ρ a w hk h ho
    simp only [vcRec] at hk
    refine wpSIn_seq ?_
    intro b kk hb hr hF hroom
    obtain ⟨e, a', cs', w', hl, ⟨rfl, hq⟩, harr⟩ := ihx hk h ho b kk hb hr hF hroom
    refine ⟨e, a', _, w', hl, ?_, harr⟩
    cases e with
    | normal =>
      obtain ⟨st', ρ', h1, h2⟩ := hq
      exact wpSIn_of_wpIn rfl (wpIn_mono (vcCode_sound y hE hB (fun hd e => by rw [e] at hyn; cases hyn) (r := none) (fun _ => rfl) h1 h2) (fun e a' w' hq => ⟨rfl, hq⟩))
    | exit id => obtain ⟨st', ρ', h1, h2⟩ := hq; exact h1.elim
    | ret => obtain ⟨st', ρ', h1, h2⟩ := hq; exact h1.elim
    | panic ch => obtain ⟨_, _, _, _, _, h1, _⟩ := hq; exact h1.elim
    | goto l => exact hq.elim
    | outgrown => exact hq.elim
  | region id ops draw =>
    intro st p k ρ a w hk h ho
    cases draw with
    | true => simp only [vcRec] at hk
    | false =>
      simp only [vcRec] at hk
      split at hk
      . rename_i o1 rest hops
        split at hk
        . rename_i hrec
          unfold isRecover at hrec
          split at hrec
          . rename_i c1 hop hg
            simp only [Bool.and_eq_true] at hrec
            obtain ⟨hcal, hargs⟩ := hrec
            have hcal : c1.callee = .builtin .recover := by
              split at hcal
              . assumption
              . cases hcal
            have hargs : c1.args = #[] := by simpa using hargs
            refine wpSIn_region ?_
            have h0 : ops[0]? = some o1 := by
              have : ops.toList[0]? = some o1 := by rw [hops]; rfl
              simpa using this
            have hsz : ops.size = rest.length + 1 := by
              have := congrArg List.length hops
              simpa using this
            have hrun : (execOp a.eval o1).run E.P w = .ok .recover w := by
              unfold execOp
              rw [hop]
              simp [resolve, hcal, hargs, invoke, builtin]
            rw [hsz, List.range_eq_range', List.range'_succ]
            simp only [wpOpsSIn, h0]
            refine ⟨fun _ _ => trivial, ?_⟩
            rw [if_pos (by simp [Region.wanted, hg]), hrun]
            simp only
            rw [recover_of c₀ cs o hc0]
            have tail : ∀ (v : Value), (recSV p).rel (cx B ρ st.hp w) v → wpOpsSIn Fence.wide 0 E.P ops (fun e a' cs' w' => cs' = caught c₀ o :: cs ∧ CPost B fs k e a' w') (List.range' (0 + 1) rest.length) (a.put o1.dst v) (caught c₀ o :: cs) w := by
              intro v hv
              obtain ⟨st2, h5, h6⟩ := setK_sound hk h hv
              refine still_ops hE rest 1 (fun j => ?_) h5 h6 (fun st' ρ' a' hs hr => ⟨rfl, _, _, hs, hr.trim _⟩)
              have : ops.toList[j + 1]? = rest[j]? := by rw [hops]; rfl
              rw [← this, Nat.add_comm 1 j]; simp
            cases o with
            | none =>
              simp only [Option.map_none]
              refine tail .nilIface ?_
              cases p with
              | none => exact rfl
              | some s => obtain ⟨v, e, _⟩ := ho; cases e
            | some v =>
              simp only [Option.map_some]
              refine tail v ?_
              cases p with
              | none => cases ho
              | some s => obtain ⟨v', e, hv⟩ := ho; cases e; exact hv
          . cases hrec
        . exact hk.elim
      . exact hk.elim
  | _ => intro st p k ρ a w hk h ho; simp only [vcRec] at hk
theorem defOk_fn (hE : E.Ok gl) {f : Nat} {fn : Func} {body : Code} (hf : E.P.funcs[f]? = some fn) (hn : (fn.name == "runtime.NumGoroutine") = false) (hb : fn.body = some body) (hq : E.yld.isNone = true) (hrnd : E.rnd = false) :
    DefOk E.P gl f (vcDef E H fn.ntmps fn.results.toList body) := by
  refine ⟨fn_enter hf hn hb, fun cap st p K B ρ a fs w vs o hB hc h hr ho => ?_⟩
  unfold vcDef at hc
  split at hc
  . rename_i hlen
    refine callsDIn_of_wpSIn hf hb trivial (fun c₀ cs hc0 => ?_)
    have hw := rec_sound hE hB hrnd hq (c₀ := c₀) (cs := cs) hc0 body hc (push_rel h hr hlen) (by exact ho)
    intro b kk hb' hr' hF hroom
    obtain ⟨e, a', cs', w', hl, ⟨rfl, hqq⟩, harr⟩ := hw b kk hb' hr' hF hroom
    refine ⟨e, a', _, w', hl, ?_, harr⟩
    have fin : ∀ {st' : St} {ρ' : Nat → Value}, (match st'.df, st.pop st', fn.results.toList with
        | [], some st'', [] => K st'' none
        | _, _, _ => False) → StRel B ρ' st' a' (a :: fs) w' → a'.defers = [] ∧ ∃ u', caught c₀ o :: cs = { c₀ with mode := u' } :: cs ∧ ∃ v, (results fn a'.tmps).run E.P w' = .ok v w' ∧ DefPost B a fs K (.returned v) u' w' := by
      intro st' ρ' hk hr2
      split at hk
      . rename_i st'' e1 e2 e3
        have hd := hr2.d
        rw [e1] at hd
        have hres : (results fn a'.tmps).run E.P w' = .ok (.tuple #[]) w' := by
          have e : fn.results = #[] := by apply Array.ext'; simpa using e3
          unfold results
          simp [e]
        refine ⟨hd, (caught c₀ o).mode, ?_, _, hres, st'', none, ρ', none, hk, pop_rel h e2 hr2, rfl, ?_⟩
        . cases o <;> rfl
        . cases o with
          | none => simp only [caught]; rw [hc0]; rfl
          | some v => simp [caught, settle, modeOf]
      . exact hk.elim
    cases e with
    | normal => obtain ⟨st', ρ', h1, h2⟩ := hqq; exact fin h1 h2
    | ret => obtain ⟨st', ρ', h1, h2⟩ := hqq; exact fin h1 h2
    | panic ch => obtain ⟨_, _, _, _, _, h1, _⟩ := hqq; exact h1.elim
    | exit id => obtain ⟨st', ρ', h1, h2⟩ := hqq; exact h1.elim
    | goto l => exact hqq.elim
    | outgrown => exact hqq.elim
  . exact hc.elim
end
end Go.Vc
end
section
namespace Go.Vc
open Go.RowKit
inductive AK where
  | dat (k : Kd)
  | own (e : Nat) (k : Kd)
@[reducible] def AK.T : AK → Type
  | .dat k => k.T
  | .own _ k => List k.T
@[reducible] def ATup : List AK → Type
  | [] => Unit
  | a :: l => a.T × ATup l
def AK.wf : (a : AK) → a.T → Prop
  | .dat k, x => k.wf x
  | .own _ k, xs => Kd.wf (.sl k) xs
def ATup.wf : (l : List AK) → ATup l → Prop
  | [], _ => True
  | a :: l, x => a.wf x.1 ∧ ATup.wf l x.2
def Kd.flat : Kd → Bool
  | .sl _ => false
  | .mp _ => false
  | .pair a b => a.flat && b.flat
  | .arr _ k => k.flat
  | _ => true
def AK.flat : AK → Bool
  | .dat k => k.flat
  | .own _ k => k.flat
def acx (w : World) (F : Nat → Prop) : Cx := ⟨w, F, fun _ => undef, 0, 0⟩
def ARep (w : World) (F : Nat → Prop) : (a : AK) → a.T → Value → Prop
  | .dat k, x, v => VRep w F k x v
  | .own e k, xs, v => (Ob.row e k xs).rel (acx w F) v
def AReps (w : World) (F : Nat → Prop) : (l : List AK) → ATup l → List Value → Prop
  | [], _, vs => vs = []
  | a :: l, x, vs => ∃ v r, vs = v :: r ∧ ARep w F a x.1 v ∧ AReps w F l x.2 r
def handles : List AK → List Value → List Value
  | .own _ _ :: l, v :: r => v :: handles l r
  | .dat _ :: l, _ :: r => handles l r
  | _, _ => []
def ownBlk (l : List AK) (vs : List Value) (b : Nat) : Prop := ∃ v ∈ handles l vs, blk v = some b
def ownSep (l : List AK) (vs : List Value) : Prop := ∀ (i j : Nat) (v u : Value) (b : Nat), (handles l vs)[i]? = some v → (handles l vs)[j]? = some u → blk v = some b → blk u = some b → i = j
structure Con where
  args : List AK
  res : List AK
  pre : ATup args → Prop
  post : ATup args → ATup res → Prop
  pan : Bool := false
  pt : Nat := 0
  pk : Kd := .unit
  ppost : ATup args → pk.T → Prop := fun _ _ => False
  agg : Nat := 0
def resOf (us : List Value) : Value := if h : us.toArray.size = 1 then us.toArray[0] else .tuple us.toArray
def aggOf (n : Nat) (us : List Value) : Value := match n with
  | 0 => resOf us
  | _ => resOf (.agg (us.take n).toArray :: us.drop n)
def Con.returns (c : Con) (w : World) (Fb : Nat → Prop) (x : ATup c.args) (vs : List Value) (en : Ending) (w' : World) : Prop :=
  ∃ us y, en = .returned (aggOf c.agg us) ∧ c.post x y ∧ Kept (ownBlk c.args vs) w w' ∧
      AReps w' (fun b => Fb b ∨ ownBlk c.res us b) c.res y us ∧ ownSep c.res us ∧ ∀ b, ownBlk c.res us b → w.heap.size ≤ b ∨ ownBlk c.args vs b
def Con.panics (c : Con) (w : World) (x : ATup c.args) (vs : List Value) (en : Ending) (w' : World) : Prop :=
  c.pan = true ∧ c.pk.flat = true ∧ ∃ u y, en = .panicked [{ v := .iface c.pt u, recovered := false }] ∧ c.ppost x y ∧ Kept (ownBlk c.args vs) w w' ∧ VRep w' (fun _ => False) c.pk y u
def Con.holds (P : Program) (gl : Gl) (f : Nat) (c : Con) : Prop :=
  ∀ (w : World) (Fb : Nat → Prop) (x : ATup c.args) (vs : List Value), (∀ b, Fb b → b < w.heap.size ∧ ¬ ownBlk c.args vs b) → GlOk gl w (fun b => Fb b ∨ ownBlk c.args vs b) →
    AReps w (fun b => Fb b ∨ ownBlk c.args vs b) c.args x vs → ownSep c.args vs → c.pre x →
    Calls P f vs.toArray w fun en w' => c.returns w Fb x vs en w' ∨ c.panics w x vs en w'
def canA : (l : List AK) → ATup l → Nat → List SV
  | [], _, _ => []
  | .dat k :: l, x, n => .dat k x.1 :: canA l x.2 n
  | .own _ _ :: l, x, n => .own n :: canA l x.2 (n + 1)
def canH : (l : List AK) → ATup l → List (Option Ob)
  | [], _ => []
  | .dat _ :: l, x => canH l x.2
  | .own e k :: l, x => some (.row e k x.1) :: canH l x.2
def resSVs : List AK → SV → Option (List SV)
  | [_], s => some [s]
  | _, .tup l => some l
  | _, _ => none
def aggCells (n : Nat) (s : SV) : Option (List SV) := if s.isAgg then (match s.cells with
  | some l => if l.length = n then some l else none
  | none => none) else none
def aggSVs (n : Nat) (res : List AK) (s : SV) : Option (List SV) := match n with
  | 0 => resSVs res s
  | _ => if n = res.length then aggCells n s else match s with
    | .tup (x :: t :: r) => (match aggCells n x with
      | some l => some (l ++ t :: r)
      | none => none)
    | _ => none
def aggVal (n : Nat) (l : List SV) : SV := match n with
  | 0 => resVal l
  | _ => resVal (.agg (l.take n) :: l.drop n)
def resT (st : St) : (l : List AK) → List SV → Option (ATup l)
  | [], [] => some ()
  | .dat k :: l, s :: r => match st.asData k s, resT st l r with
    | some x, some y => some (x, y)
    | _, _ => none
  | .own e k :: l, .own n :: r => match st.hp[n]?, resT st l r with
    | some (some (.row e' k' xs)), some y => if h : k' = k then (if e' = e then some (castL h xs, y) else none) else none
    | _, _ => none
  | .own _ _ :: l, .cst c :: r => if nilSlice c then (match resT st l r with
      | some y => some ([], y)
      | none => none) else none
  | _, _ => none
def ownsO : List AK → List SV → List (Option Nat)
  | .own _ _ :: l, .own n :: r => some n :: ownsO l r
  | .own _ _ :: l, _ :: r => none :: ownsO l r
  | .dat _ :: l, _ :: r => ownsO l r
  | _, _ => []
def ownsR (l : List AK) (r : List SV) : List Nat := (ownsO l r).filterMap id
def takenR : List AK → List SV → List Nat
  | .dat _ :: l, s :: r => s.names ++ takenR l r
  | .own _ _ :: l, _ :: r => takenR l r
  | _, _ => []
def apartB (l : List AK) (r : List SV) : Bool := nodupB (ownsR l r) && (takenR l r).all fun m => !(ownsR l r).contains m
def St.resK (st : St) (agg : Nat) (res : List AK) (s : SV) (K : ATup res → Prop) : Prop :=
  match aggSVs agg res s with
  | some l => if apartB res l then
      match resT st res l with
      | some y => K y
      | none => False
    else False
  | none => False
def Con.panK (c : Con) (x : ATup c.args) (s : SV) : Prop :=
  match s with
  | .ifc t s' => if c.pan && (t == c.pt) && c.pk.flat && s'.isAgg && c.pk.isAgg then
      match s'.cells with
      | some l => match unleaf c.pk l with
        | some (y, []) => c.ppost x y
        | _ => False
      | none => False
    else False
  | _ => False
def Con.vc (c : Con) (gl : Gl) (E : Env) (H : Hints) (n : Nat) (rs : List ResultVar) (body : Code) : Prop :=
  ∀ x, ATup.wf c.args x → c.pre x → vcFn E H n rs body (canA c.args x 0) { n := 0, sl := [], hp := canH c.args x, gl := gl } (fun s st => st.resK c.agg c.res s (c.post x)) (fun s _ => c.panK x s)
theorem flat_rep {w w' : World} {F F' : Nat → Prop} : ∀ {k : Kd} {x : k.T} {cs : List Value}, k.flat = true → Rep w F k x cs → Rep w' F' k x cs
  | .int _, _, _, _, h => h
  | .bool, _, _, _, h => h
  | .str, _, _, _, h => h
  | .sl _, _, _, hk, _ => by cases hk
  | .pair a b, _, _, hk, h => by
    simp only [Kd.flat, Bool.and_eq_true] at hk
    obtain ⟨c1, c2, e, h1, h2⟩ := h
    exact ⟨c1, c2, e, flat_rep hk.1 h1, flat_rep hk.2 h2⟩
  | .unit, _, _, _, h => h
  | .err, _, _, _, h => h
  | .fn, _, _, _, h => h
  | .mp _, _, _, hk, _ => by cases hk
  | .arr _ k, _, _, hk, h => ⟨h.1, h.2.imp fun x _ c hc => flat_rep (k := k) hk hc⟩
theorem ARep.over {w : World} {F F' : Nat → Prop} : ∀ {a : AK} {x : a.T} {v : Value}, (a.flat = true ∨ ∀ b, b < w.heap.size → F' b → F b) → ARep w F a x v → ARep w F' a x v
  | .dat k, x, v, h, hr => by
    obtain ⟨cs, h1, h2⟩ := hr
    rcases h with h | h
    . exact ⟨cs, flat_rep h h1, h2⟩
    . exact ⟨cs, h1.mono h, h2⟩
  | .own e k, xs, v, h, hr => by
    obtain ⟨inner, h1, h2⟩ := hr
    refine ⟨inner, h1, fun i x hx => ?_⟩
    rcases h with h | h
    . exact flat_rep (k := k) h (h2 i x hx)
    . exact (h2 i x hx).mono h
theorem AReps.wf {w : World} {F : Nat → Prop} : ∀ {l : List AK} {x : ATup l} {vs : List Value}, AReps w F l x vs → ATup.wf l x
  | [], _, _, _ => trivial
  | .dat k :: l, x, vs, h => by
    obtain ⟨v, r, _, h1, h2⟩ := h
    exact ⟨as_wf h1, AReps.wf h2⟩
  | .own e k :: l, x, vs, h => by
    obtain ⟨v, r, _, h1, h2⟩ := h
    exact ⟨row_wf h1, AReps.wf h2⟩
theorem canH_len : ∀ {l : List AK} {x : ATup l} {w : World} {F : Nat → Prop} {vs : List Value}, AReps w F l x vs → (handles l vs).length = (canH l x).length
  | [], _, _, _, vs, h => by
    obtain rfl : vs = [] := h
    rfl
  | .dat k :: l, x, w, F, vs, h => by
    obtain ⟨v, r, rfl, h1, h2⟩ := h
    simp only [handles, canH]
    exact canH_len h2
  | .own e k :: l, x, w, F, vs, h => by
    obtain ⟨v, r, rfl, h1, h2⟩ := h
    simp [handles, canH, canH_len h2]
theorem can_rel {C : Cx} {F : Nat → Prop} : ∀ {l : List AK} {x : ATup l} {vs : List Value} {n : Nat}, AReps C.w F l x vs → (l.all AK.flat = true ∨ ∀ b, b < C.w.heap.size → C.F b → F b) → n + (canH l x).length ≤ C.N →
    (∀ (i : Nat) (v : Value), (handles l vs)[i]? = some v → C.ρ (n + i) = v) → SV.rels C (canA l x n) vs
  | [], _, vs, _, h, _, _, _ => h
  | .dat k :: l, x, vs, n, h, hF, hN, hρ => by
    obtain ⟨v, r, rfl, h1, h2⟩ := h
    refine ⟨v, r, rfl, ?_, can_rel h2 (hF.imp (fun h => (by simp at h ⊢; exact h.2)) id) hN hρ⟩
    exact ARep.over (a := .dat k) (hF.imp (fun h => (by simp at h; exact h.1)) id) h1
  | .own e k :: l, x, vs, n, h, hF, hN, hρ => by
    obtain ⟨v, r, rfl, h1, h2⟩ := h
    simp only [canH, List.length_cons] at hN
    refine ⟨v, r, rfl, ⟨by omega, (hρ 0 v rfl).symm, ?_⟩, can_rel h2 (hF.imp (fun h => (by simp at h ⊢; exact h.2)) id) (by omega) (fun i u hu => by rw [show n + 1 + i = n + (i + 1) by omega]; exact hρ (i + 1) u hu)⟩
    obtain ⟨inner, h3, _⟩ := h1
    rcases h3.form.2 with ⟨rfl, _⟩ | ⟨g, cap, cur, e0, fz, rfl, _⟩
    . exact .inl ⟨_, _, _, rfl⟩
    . exact .inl ⟨_, _, _, rfl⟩
theorem canH_rel {w : World} {F F' : Nat → Prop} : ∀ {l : List AK} {x : ATup l} {vs : List Value}, AReps w F l x vs → (l.all AK.flat = true ∨ ∀ b, b < w.heap.size → F' b → F b) →
    ∀ (i : Nat) (ob : Ob), (canH l x)[i]? = some (some ob) → ∃ v, (handles l vs)[i]? = some v ∧ ∀ C : Cx, C.w = w → C.F = F' → ob.rel C v
  | [], _, vs, _, _, i, ob, h => by simp [canH] at h
  | .dat k :: l, x, vs, h, hF, i, ob, ho => by
    obtain ⟨v, r, rfl, h1, h2⟩ := h
    exact canH_rel h2 (hF.imp (fun h => (by simp at h ⊢; exact h.2)) id) i ob ho
  | .own e k :: l, x, vs, h, hF, i, ob, ho => by
    obtain ⟨v, r, rfl, h1, h2⟩ := h
    cases i with
    | zero =>
      simp only [canH, List.getElem?_cons_zero, Option.some.injEq] at ho
      subst ho
      refine ⟨v, rfl, fun C e1 e2 => ?_⟩
      obtain ⟨inner, h3, h4⟩ := ARep.over (a := .own e k) (hF.imp (fun h => (by simp at h; exact h.1)) id) h1
      exact ⟨inner, by rw [e1]; exact h3, by rw [e1, e2]; exact h4⟩
    | succ i =>
      simp only [canH, List.getElem?_cons_succ] at ho
      exact canH_rel h2 (hF.imp (fun h => (by simp at h ⊢; exact h.2)) id) i ob ho
section
variable {B : Base} {ρ : Nat → Value} {st : St} {a : Act} {fs : List Act} {w : World}
theorem owns_at (h : StRel B ρ st a fs w) : ∀ {l : List AK} {r : List SV} {vs : List Value} {y : ATup l}, resT st l r = some y → SV.rels (cx B ρ st.hp w) r vs →
    ∀ (i : Nat) (v : Value), (handles l vs)[i]? = some v → ∃ o, (ownsO l r)[i]? = some o ∧ ∀ b, blk v = some b → ∃ m, o = some m ∧ v = ρ m ∧ live st.hp m
  | [], r, vs, y, hy, hr, i, v, hv => by
    cases vs <;> simp [handles] at hv
  | .dat k :: l, [], vs, y, hy, hr, i, v, hv => by simp [resT] at hy
  | .own e k :: l, [], vs, y, hy, hr, i, v, hv => by simp [resT] at hy
  | .dat k :: l, s :: r, vs, y, hy, hr, i, v, hv => by
    obtain ⟨u, us, rfl, h1, h2⟩ := hr
    simp only [resT] at hy
    split at hy
    . rename_i x y' e1 e2
      exact owns_at h e2 h2 i v hv
    . cases hy
  | .own e k :: l, s :: r, vs, y, hy, hr, i, v, hv => by
    obtain ⟨u, us, rfl, h1, h2⟩ := hr
    cases s <;> simp only [resT] at hy <;> try (cases hy; done)
    case own n =>
      split at hy
      . rename_i e' k' xs y' e1 e2
        cases i with
        | zero =>
          simp only [handles, List.getElem?_cons_zero, Option.some.injEq] at hv
          subst hv
          exact ⟨some n, rfl, fun b _ => ⟨n, rfl, h1.2.1, ⟨_, e1⟩⟩⟩
        | succ i => exact owns_at h e2 h2 i v hv
      . cases hy
    case cst c =>
      split at hy
      . rename_i hn
        split at hy
        . rename_i y' e2
          cases i with
          | zero =>
            simp only [handles, List.getElem?_cons_zero, Option.some.injEq] at hv
            subst hv
            refine ⟨none, rfl, fun b hb => ?_⟩
            have : u = c := h1
            rw [this, nilSlice_eq hn] at hb
            cases hb
          | succ i => exact owns_at h e2 h2 i v hv
        . cases hy
      . cases hy
theorem nodup_opt : ∀ {os : List (Option Nat)} {i j m : Nat}, nodupB (os.filterMap id) = true → os[i]? = some (some m) → os[j]? = some (some m) → i = j
  | [], i, j, m, _, hi, _ => by simp at hi
  | o :: os, i, j, m, hn, hi, hj => by
    have hn' : nodupB (os.filterMap id) = true ∧ ∀ m', o = some m' → m' ∉ os.filterMap id := by
      cases o with
      | none => exact ⟨by simpa using hn, fun m' e => by cases e⟩
      | some m' =>
        simp only [List.filterMap_cons, id, nodupB, Bool.and_eq_true, Bool.not_eq_true'] at hn
        refine ⟨hn.2, fun m'' e => ?_⟩
        cases e
        simpa using hn.1
    have mem : ∀ {i : Nat}, os[i]? = some (some m) → m ∈ os.filterMap id := fun h => List.mem_filterMap.2 ⟨some m, List.mem_iff_getElem?.2 ⟨_, h⟩, rfl⟩
    cases i with
    | zero =>
      cases j with
      | zero => rfl
      | succ j =>
        simp only [List.getElem?_cons_zero, Option.some.injEq, List.getElem?_cons_succ] at hi hj
        exact absurd (mem hj) (hn'.2 m hi)
    | succ i =>
      cases j with
      | zero =>
        simp only [List.getElem?_cons_zero, Option.some.injEq, List.getElem?_cons_succ] at hi hj
        exact absurd (mem hi) (hn'.2 m hj)
      | succ j =>
        simp only [List.getElem?_cons_succ] at hi hj
        rw [nodup_opt hn'.1 hi hj]
theorem owns_sep (h : StRel B ρ st a fs w) {l : List AK} {r : List SV} {vs : List Value} {y : ATup l} (hy : resT st l r = some y) (hr : SV.rels (cx B ρ st.hp w) r vs) (hn : nodupB (ownsR l r) = true) : ownSep l vs := by
  intro i j v u b hi hj hv hu
  obtain ⟨o1, h1, h2⟩ := owns_at h hy hr i v hi
  obtain ⟨o2, h3, h4⟩ := owns_at h hy hr j u hj
  obtain ⟨m1, rfl, rfl, hl1⟩ := h2 b hv
  obtain ⟨m2, rfl, rfl, hl2⟩ := h4 b hu
  have := h.h.sep m1 m2 b hl1 hl2 hv hu
  subst this
  exact nodup_opt hn h1 h3
theorem owns_blk (h : StRel B ρ st a fs w) {l : List AK} {r : List SV} {vs : List Value} {y : ATup l} (hy : resT st l r = some y) (hr : SV.rels (cx B ρ st.hp w) r vs) {b : Nat} (hb : ownBlk l vs b) :
    ∃ m, m ∈ ownsR l r ∧ live st.hp m ∧ blk (ρ m) = some b := by
  obtain ⟨v, hv, hvb⟩ := hb
  obtain ⟨i, hi⟩ := List.mem_iff_getElem?.1 hv
  obtain ⟨o, h1, h2⟩ := owns_at h hy hr i v hi
  obtain ⟨m, rfl, rfl, hl⟩ := h2 b hvb
  exact ⟨m, List.mem_filterMap.2 ⟨some m, List.mem_iff_getElem?.2 ⟨_, h1⟩, rfl⟩, hl, hvb⟩
theorem resT_rel (h : StRel B ρ st a fs w) {F : Nat → Prop} {srcs : List Nat} (hF : ∀ b, F b → B.Fb b ∨ ∃ m, m ∈ srcs ∧ live st.hp m ∧ blk (ρ m) = some b) :
    ∀ {l : List AK} {r : List SV} {vs : List Value} {y : ATup l}, resT st l r = some y → SV.rels (cx B ρ st.hp w) r vs → (∀ m ∈ takenR l r, m ∉ srcs) → AReps w F l y vs := by
  have f : FitCx B ρ st w ⟨w, F, ρ, st.hp.length, B.lp⟩ [] srcs := ⟨rfl, fun n => by simp [handleOf, srcOf], hF, rfl⟩
  have mono : ∀ b, b < w.heap.size → F b → Forb B ρ st.hp b := fun b _ hb => by
    rcases hF b hb with h | ⟨m, _, h1, h2⟩
    . exact .inl h
    . exact .inr ⟨m, h1, h2⟩
  intro l
  induction l with
  | nil =>
    intro r vs y hy hr _
    cases r with
    | nil => exact hr
    | cons s r => simp [resT] at hy
  | cons k l ih =>
    intro r vs y hy hr ht
    cases r with
    | nil => cases k <;> simp [resT] at hy
    | cons s r =>
      obtain ⟨v, us, rfl, h1, h2⟩ := hr
      cases k with
      | dat k =>
        simp only [resT] at hy
        split at hy
        . rename_i x y' e1 e2
          cases hy
          exact ⟨v, us, rfl, asData_rel h f e1 h1 (fun m hm => ht m (by simp [takenR, hm])), ih e2 h2 (fun m hm => ht m (by simp [takenR, hm]))⟩
        . cases hy
      | own e k =>
        cases s <;> simp only [resT] at hy <;> try (cases hy; done)
        case own n =>
          split at hy
          . rename_i e' k' xs y' e1 e2
            split at hy
            . rename_i ek
              subst ek
              split at hy
              . rename_i ee
                subst ee
                cases hy
                refine ⟨v, us, rfl, ?_, ih e2 h2 (fun m hm => ht m (by simpa [takenR] using hm))⟩
                obtain ⟨inner, h3, h4⟩ := h.h.obj n _ e1
                rw [h1.2.1]
                exact ⟨inner, h3, fun i x hx => (h4 i x hx).mono mono⟩
              . cases hy
            . cases hy
          . cases hy
        case cst c =>
          split at hy
          . rename_i hn
            split at hy
            . rename_i y' e2
              cases hy
              refine ⟨v, us, rfl, ?_, ih e2 h2 (fun m hm => ht m (by simpa [takenR] using hm))⟩
              have : v = c := h1
              rw [this, nilSlice_eq hn]
              exact ⟨[], .inl ⟨by simp, .inl ⟨rfl, rfl⟩⟩, fun i x hx => by simp at hx⟩
            . cases hy
          . cases hy
end
end Go.Vc
end
section
namespace Go.Vc
open Go.RowKit
section
variable {E : Env} {gl : Gl} {H : Hints} {B : Base} {ρ : Nat → Value} {st : St} {a : Act} {fs : List Act} {w : World}
end
end Go.Vc
end
section
namespace Go.Vc
open Go.RowKit
theorem resVal_of {C : Cx} {res : List AK} {s : SV} {l : List SV} {v : Value} (h : resSVs res s = some l) (hs : s.rel C v) (hl : l.length = res.length) : ∃ us, v = resOf us ∧ SV.rels C l us := by
  unfold resSVs at h
  split at h
  . cases h
    exact ⟨[v], rfl, v, [], rfl, hs, rfl⟩
  . rename_i hne
    cases h
    obtain ⟨us, rfl, hu⟩ := hs
    refine ⟨us, ?_, hu⟩
    unfold resOf
    have h1 : us.length = l.length := rels_length hu
    have : us.toArray.size ≠ 1 := by
      intro e
      simp at e
      rw [h1, hl] at e
      match res, e with
      | [x], _ => exact hne x rfl
    rw [dif_neg this]
  . cases h
theorem aggCells_rel {C : Cx} {n : Nat} {s : SV} {l : List SV} {v : Value} (h : aggCells n s = some l) (hs : s.rel C v) : ∃ ws, v = .agg ws.toArray ∧ SV.rels C l ws ∧ l.length = n := by
  unfold aggCells at h
  split at h
  . rename_i ha
    split at h
    . rename_i l' hl
      split at h
      . rename_i hn
        cases h
        obtain ⟨cs, rfl⟩ := isAgg_rel ha hs
        have h2 := cells_rel hl hs
        exact ⟨cs.toList, by simp, h2, hn⟩
      . cases h
    . cases h
  . cases h
theorem aggOf_of {C : Cx} {n : Nat} {res : List AK} {s : SV} {l : List SV} {v : Value} (h : aggSVs n res s = some l) (hs : s.rel C v) (hl : l.length = res.length) : ∃ us, v = aggOf n us ∧ SV.rels C l us := by
  unfold aggSVs at h
  split at h
  . exact resVal_of h hs hl
  . rename_i n0 hne
    have hne : n ≠ 0 := fun e => hne e
    split at h
    . obtain ⟨ws, rfl, h1, h2⟩ := aggCells_rel h hs
      have h3 := rels_length h1
      refine ⟨ws, ?_, h1⟩
      unfold aggOf
      split
      . omega
      . rw [List.take_of_length_le (by omega), List.drop_of_length_le (by omega)]
        rfl
    . split at h
      . rename_i x t r
        split at h
        . rename_i l' hx
          cases h
          obtain ⟨us, rfl, u1, us1, rfl, h1, u2, us2, rfl, h2, h3⟩ := hs
          obtain ⟨ws, rfl, h4, h5⟩ := aggCells_rel hx h1
          have h6 := rels_length h4
          refine ⟨ws ++ u2 :: us2, ?_, rels_append h4 ⟨u2, us2, rfl, h2, h3⟩⟩
          unfold aggOf
          split
          . omega
          . rw [List.take_left' (by omega), List.drop_left' (by omega)]
            unfold resOf
            rw [dif_neg (by simp)]
        . cases h
      . cases h
theorem aggVal_rel {C : Cx} {n : Nat} {l : List SV} {us : List Value} (h : SV.rels C l us) : (aggVal n l).rel C (aggOf n us) := by
  unfold aggVal aggOf
  split
  . exact resVal_rel h
  . have h1 := rels_take n h
    have h2 := rels_drop n h
    exact resVal_rel (l := .agg (l.take n) :: l.drop n) (vs := .agg (us.take n).toArray :: us.drop n) ⟨_, _, rfl, ⟨_, rfl, h1⟩, h2⟩
theorem resT_len {st : St} : ∀ {l : List AK} {r : List SV} {y : ATup l}, resT st l r = some y → r.length = l.length
  | [], [], _, _ => rfl
  | [], _ :: _, _, h => by simp [resT] at h
  | .dat _ :: _, [], _, h => by simp [resT] at h
  | .own _ _ :: _, [], _, h => by simp [resT] at h
  | .dat k :: l, s :: r, y, h => by
    simp only [resT] at h
    split at h
    . rename_i e; simp [resT_len e]
    . cases h
  | .own e k :: l, s :: r, y, h => by
    cases s <;> simp only [resT] at h <;> try (cases h; done)
    case own n =>
      split at h
      . rename_i e; simp [resT_len e]
      . cases h
    case cst c =>
      split at h
      . split at h
        . rename_i e; simp [resT_len e]
        . cases h
      . cases h
theorem AReps.len {w : World} {F : Nat → Prop} : ∀ {l : List AK} {x : ATup l} {vs : List Value}, AReps w F l x vs → vs.length = l.length
  | [], _, vs, h => by
    obtain rfl : vs = [] := h
    rfl
  | a :: l, x, vs, h => by
    obtain ⟨v, r, rfl, _, h2⟩ := h
    simp [AReps.len h2]
theorem con_body {E : Env} {gl : Gl} {H : Hints} (hE : E.Ok gl) {f : Nat} {fn : Func} {body : Code} (hf : E.P.funcs[f]? = some fn) (hn : (fn.name == "runtime.NumGoroutine") = false) (hb : fn.body = some body) (hq : E.yld.isNone = true) (hrnd : E.rnd = false)
    {c : Con} (hc : c.vc gl E H fn.ntmps fn.results.toList body) : c.holds E.P gl f := by
  intro w Fb x vs hFb hgl hA hsep hpre
  have hvc := hc x hA.wf hpre
  let B : Base := ⟨fun _ => w, ownBlk c.args vs, Fb, 0, gl, fun _ => hgl⟩
  let ρ : Nat → Value := fun n => (handles c.args vs).getD n undef
  let st : St := { n := 0, sl := [], hp := canH c.args x, gl := gl }
  have hρ : ∀ (i : Nat) (v : Value), (handles c.args vs)[i]? = some v → ρ i = v := fun i v hv => by simp [ρ, List.getD_eq_getElem?_getD, hv]
  have hlen := canH_len hA
  have getL : ∀ n, live st.hp n → ∃ v, (handles c.args vs)[n]? = some v ∧ ρ n = v := fun n hl => by
    have := live_lt hl
    have h2 : n < (handles c.args vs).length := by rw [hlen]; exact this
    exact ⟨_, List.getElem?_eq_getElem h2, hρ n _ (List.getElem?_eq_getElem h2)⟩
  have hForb : ∀ b, b < w.heap.size → Forb B ρ st.hp b → Fb b ∨ ownBlk c.args vs b := fun b _ hb => by
    rcases hb with hb | ⟨n, hl, hb⟩
    . exact .inl hb
    . obtain ⟨v, hv, e⟩ := getL n hl
      exact .inr ⟨v, List.mem_iff_getElem?.2 ⟨n, hv⟩, by rw [← e]; exact hb⟩
  have hR : StRel B ρ st { tmps := #[], defers := [] } [] w := by
    refine ⟨⟨Kept.refl _ _, fun n o ho => ?_, fun n m b hn hm h1 h2 => ?_, fun n b hn h1 => ?_, fun b hb => ⟨(hFb b hb).1, (hFb b hb).2⟩⟩, ⟨rfl, fun i s hs => by cases hs⟩, (fun t b hb => by cases hb), rfl, rfl, rfl⟩
    . obtain ⟨v, hv, hr⟩ := canH_rel hA (.inr hForb) n o ho
      rw [hρ n v hv]
      exact hr _ rfl rfl
    . obtain ⟨v, hv, e1⟩ := getL n hn
      obtain ⟨u, hu, e2⟩ := getL m hm
      rw [e1] at h1
      rw [e2] at h2
      exact hsep n m v u b hv hu h1 h2
    . obtain ⟨v, hv, e1⟩ := getL n hn
      rw [e1] at h1
      have : ownBlk c.args vs b := ⟨v, List.mem_iff_getElem?.2 ⟨n, hv⟩, h1⟩
      exact ⟨.inr this, fun hc => (hFb b hc).2 this⟩
  have hargs : SV.rels (cx B ρ st.hp w) (canA c.args x 0) vs := can_rel (C := cx B ρ st.hp w) hA (.inr hForb) (by simp [st]) (fun i v hv => by rw [Nat.zero_add]; exact hρ i v hv)
  refine (fn_sound (H := H) hE hf hb hrnd rfl (fun hd e => by rw [e] at hq; cases hq) hvc hR hargs).mono fun en w' hw => ?_
  cases en with
  | panicked ch =>
    right
    obtain ⟨v, s, st', ρ', rfl, hk, hR', hs⟩ := hw
    unfold Con.panK at hk
    split at hk
    . rename_i t s'
      split at hk
      . rename_i hcond
        simp only [Bool.and_eq_true, beq_iff_eq] at hcond
        obtain ⟨⟨⟨⟨hp1, rfl⟩, hp3⟩, hp4⟩, hp5⟩ := hcond
        split at hk
        . rename_i l hl
          split at hk
          . rename_i y hy
            obtain ⟨u, rfl, hu⟩ := hs
            refine ⟨hp1, hp3, u, y, rfl, hk, hR'.h.kept, ?_⟩
            have h5 := unleaf_all hy (cells_rel hl hu)
            refine ⟨u.cells.toList, flat_rep hp3 h5, ?_⟩
            rw [if_pos hp5]
            obtain ⟨cs, rfl⟩ := isAgg_rel hp4 hu
            simp [Value.cells]
          . exact hk.elim
        . exact hk.elim
      . exact hk.elim
    . exact hk.elim
  | outgrown => exact hw.elim
  | returned v =>
    left
    obtain ⟨s, st', ρ', hk, hR', hs⟩ := hw
    unfold St.resK at hk
    split at hk
    . rename_i l hl
      split at hk
      . rename_i hap
        split at hk
        . rename_i y hy
          obtain ⟨us, rfl, hus⟩ := aggOf_of hl hs (resT_len hy)
          simp only [apartB, Bool.and_eq_true, List.all_eq_true, Bool.not_eq_true'] at hap
          refine ⟨us, y, rfl, hk, hR'.h.kept, ?_, owns_sep hR' hy hus hap.1, fun b hb => ?_⟩
          . refine resT_rel hR' (srcs := ownsR c.res l) (fun b hb => ?_) hy hus (fun m hm => by simpa using hap.2 m hm)
            rcases hb with hb | hb
            . exact .inl hb
            . exact .inr (owns_blk hR' hy hus hb)
          . obtain ⟨m, _, h1, h2⟩ := owns_blk hR' hy hus hb
            exact (hR'.h.own m b h1 h2).1
        . exact hk.elim
      . exact hk.elim
    . exact hk.elim
def killAll (hp : List (Option Ob)) : List Nat → List (Option Ob)
  | [] => hp
  | n :: l => killAll (hp.set n none) l
def frzArgs (st : St) (n : Nat) (l : List SV) : List SV :=
  match st.row n with
  | some ⟨k, xs⟩ => SV.frzs n k xs l
  | none => l
def frzAll : List Nat → St → List SV → St × List SV
  | [], st, l => (st, l)
  | n :: r, st, l => frzAll r (st.frz n) (frzArgs st n l)
def conSem (c : Con) : CallSem := fun args st kv kp =>
  let p := if c.res.all AK.flat then (st, args) else frzAll (takenR c.args args) st args
  if apartB c.args p.2 && (c.res.all AK.flat || (takenR c.args p.2).isEmpty) then
    match resT p.1 c.args p.2 with
    | some x => c.pre x ∧ (∀ y, ATup.wf c.res y → c.post x y → kv (aggVal c.agg (canA c.res y p.1.hp.length)) { p.1 with hp := killAll p.1.hp (ownsR c.args p.2) ++ canH c.res y }) ∧
        (if c.pan then ∀ y, c.pk.wf y → c.ppost x y → kp (.ifc c.pt (.dat c.pk y)) { p.1 with hp := killAll p.1.hp (ownsR c.args p.2) } else True)
    | none => False
  else False
theorem killAll_len : ∀ (l : List Nat) (hp : List (Option Ob)), (killAll hp l).length = hp.length
  | [], _ => rfl
  | n :: l, hp => by simp [killAll, killAll_len l]
theorem killAll_get : ∀ (l : List Nat) (hp : List (Option Ob)) (n : Nat) (o : Ob), (killAll hp l)[n]? = some (some o) → hp[n]? = some (some o) ∧ n ∉ l
  | [], _, _, _, h => ⟨h, by simp⟩
  | m :: l, hp, n, o, h => by
    obtain ⟨h1, h2⟩ := killAll_get l _ n o h
    rw [List.getElem?_set] at h1
    split at h1
    . split at h1 <;> cases h1
    . rename_i hne
      exact ⟨h1, by simp [h2, Ne.symm hne]⟩
section
variable {B : Base} {ρ : Nat → Value} {st : St} {a : Act} {fs : List Act} {w : World}
theorem StRel.args_frz (h : StRel B ρ st a fs w) {l : List SV} {vs : List Value} (hr : SV.rels (cx B ρ st.hp w) l vs) (n : Nat) : StRel B ρ (st.frz n) a fs w ∧ SV.rels (cx B ρ (st.frz n).hp w) (frzArgs st n l) vs := by
  refine ⟨h.frz n, ?_⟩
  cases e : st.row n with
  | some p =>
    obtain ⟨k, xs⟩ := p
    have e1 : (st.frz n).hp = (st.hp.set n none).map (Option.map (Ob.frz n k xs)) := by unfold St.frz; rw [e]
    have e2 : frzArgs st n l = SV.frzs n k xs l := by unfold frzArgs; rw [e]
    rw [e1, e2]
    exact SV.rels.frz (h.thaw e) hr
  | none =>
    have e1 : st.frz n = st := by unfold St.frz; rw [e]
    have e2 : frzArgs st n l = l := by unfold frzArgs; rw [e]
    rw [e1, e2]
    exact hr
theorem frzAll_rel : ∀ (ns : List Nat) {st : St} {l : List SV} {vs : List Value}, StRel B ρ st a fs w → SV.rels (cx B ρ st.hp w) l vs → StRel B ρ (frzAll ns st l).1 a fs w ∧ SV.rels (cx B ρ (frzAll ns st l).1.hp w) (frzAll ns st l).2 vs
  | [], _, _, _, h, hr => ⟨h, hr⟩
  | n :: ns, st, l, vs, h, hr => by
    obtain ⟨h1, h2⟩ := h.args_frz hr n
    exact frzAll_rel ns h1 h2
theorem callOk_con {P : Program} {gl : Gl} {f : Nat} {c : Con} (hc : c.holds P gl f) (he : ∀ args w, (callFunc f args).run P w = .ok (.enter f args) w) : CallOk P gl f (conSem c) := by
  intro args0 st0 kv kp B ρ a fs w vs hB hk h0 hr0
  refine .inl ⟨he _ _, ?_⟩
  unfold conSem at hk
  have hp : ∃ st args, (if c.res.all AK.flat then (st0, args0) else frzAll (takenR c.args args0) st0 args0) = (st, args) ∧ StRel B ρ st a fs w ∧ SV.rels (cx B ρ st.hp w) args vs := by
    split
    . exact ⟨_, _, rfl, h0, hr0⟩
    . exact ⟨_, _, rfl, frzAll_rel _ h0 hr0⟩
  obtain ⟨st, args, e, h, hr⟩ := hp
  simp only [e] at hk
  split at hk
  . rename_i hap
    split at hk
    . rename_i x hx
      obtain ⟨hpre, hk, hkp⟩ := hk
      simp only [Bool.and_eq_true, Bool.or_eq_true, apartB, List.all_eq_true, Bool.not_eq_true', List.isEmpty_iff] at hap
      obtain ⟨⟨hnd, hdisj⟩, hflat⟩ := hap
      have hflat' : c.res.all AK.flat = true ∨ takenR c.args args = [] := hflat.imp (fun h => by simpa using h) id
      -- what the callee does not read
      let Out : Nat → Prop := fun b => ∃ m, (m ∈ takenR c.args args ∨ m ∈ ownsR c.args args) ∧ live st.hp m ∧ blk (ρ m) = some b
      let Fb : Nat → Prop := fun b => Forb B ρ st.hp b ∧ ¬ Out b
      have ob : ∀ b, ownBlk c.args vs b → ∃ m, m ∈ ownsR c.args args ∧ live st.hp m ∧ blk (ρ m) = some b := fun b hb => owns_blk h hx hr hb
      have hA : AReps w (fun b => Fb b ∨ ownBlk c.args vs b) c.args x vs := by
        refine resT_rel h (srcs := (List.range st.hp.length).filter fun m => !(takenR c.args args).contains m) (fun b hb => ?_) hx hr (fun m hm => by simp [hm])
        rcases hb with ⟨hb, hno⟩ | hb
        . rcases hb with hb | ⟨m, hl, hm⟩
          . exact .inl hb
          . refine .inr ⟨m, ?_, hl, hm⟩
            simp only [List.mem_filter, List.mem_range, Bool.not_eq_true', List.contains_eq_mem, decide_eq_false_iff_not]
            exact ⟨live_lt hl, fun hc => hno ⟨m, .inl hc, hl, hm⟩⟩
        . obtain ⟨m, hm, hl, hmb⟩ := ob b hb
          refine .inr ⟨m, ?_, hl, hmb⟩
          simp only [List.mem_filter, List.mem_range, Bool.not_eq_true', List.contains_eq_mem, decide_eq_false_iff_not]
          exact ⟨live_lt hl, fun hc => by have := hdisj m hc; simp at this; exact this hm⟩
      have hgl : GlOk gl w (fun b => Fb b ∨ ownBlk c.args vs b) := by
        have hg := h.gls
        rw [h.g, hB] at hg
        refine hg.step (Nat.le_refl _) (fun _ _ _ => rfl) (fun b _ hF => ?_)
        rcases hF with hF | hF
        . exact hF.1
        . obtain ⟨m, _, hl, hmb⟩ := ob b hF
          exact .inr ⟨m, hl, hmb⟩
      refine (hc w Fb x vs (fun b hb => ⟨h.h.forb_lt hb.1, fun hc => ?_⟩) hgl hA (owns_sep h hx hr hnd) hpre).mono fun en w' hw => ?_
      . obtain ⟨m, hm, hl, hmb⟩ := ob b hc
        exact hb.2 ⟨m, .inr hm, hl, hmb⟩
      have after : ∀ (res : List AK) (us : List Value) (y : ATup res), Kept (ownBlk c.args vs) w w' → AReps w' (fun b => Fb b ∨ ownBlk res us b) res y us → ownSep res us → (∀ b, ownBlk res us b → w.heap.size ≤ b ∨ ownBlk c.args vs b) →
          (res.all AK.flat = true ∨ takenR c.args args = []) → ∃ ρ2, StRel B ρ2 { st with hp := killAll st.hp (ownsR c.args args) ++ canH res y } a fs w' ∧ SV.rels (cx B ρ2 (killAll st.hp (ownsR c.args args) ++ canH res y) w') (canA res y st.hp.length) us := by
        intro res us y hkept hR hsep hnew hfl
        let ρ2 : Nat → Value := fun n => if n < st.hp.length then ρ n else (handles res us).getD (n - st.hp.length) undef
        let hp2 := killAll st.hp (ownsR c.args args) ++ canH res y
        have hlen := canH_len hR
        have live2 : ∀ n o, hp2[n]? = some (some o) → (n < st.hp.length ∧ st.hp[n]? = some (some o) ∧ n ∉ ownsR c.args args ∧ ρ2 n = ρ n) ∨
            (st.hp.length ≤ n ∧ (canH res y)[n - st.hp.length]? = some (some o) ∧ ∃ v, (handles res us)[n - st.hp.length]? = some v ∧ ρ2 n = v) := by
          intro n o ho
          by_cases hn : n < st.hp.length
          . left
            rw [show hp2[n]? = (killAll st.hp (ownsR c.args args))[n]? from List.getElem?_append_left (by rw [killAll_len]; exact hn)] at ho
            obtain ⟨h1, h2⟩ := killAll_get _ _ _ _ ho
            exact ⟨hn, h1, h2, by simp [ρ2, hn]⟩
          . right
            rw [show hp2[n]? = (canH res y)[n - st.hp.length]? by
              show (killAll st.hp (ownsR c.args args) ++ canH res y)[n]? = _
              rw [List.getElem?_append_right (by rw [killAll_len]; omega), killAll_len]] at ho
            have hlt : n - st.hp.length < (handles res us).length := by rw [hlen]; exact (List.getElem?_eq_some_iff.1 ho).1
            exact ⟨by omega, ho, _, List.getElem?_eq_getElem hlt, by simp [ρ2, hn, List.getD_eq_getElem?_getD, List.getElem?_eq_getElem hlt]⟩
        have newBlk : ∀ (i : Nat) v b, (handles res us)[i]? = some v → blk v = some b → w.heap.size ≤ b ∨ ∃ m, m ∈ ownsR c.args args ∧ live st.hp m ∧ blk (ρ m) = some b := fun i v b hi hb => by
          rcases hnew b ⟨v, List.mem_iff_getElem?.2 ⟨i, hi⟩, hb⟩ with h1 | h1
          . exact .inl h1
          . exact .inr (ob b h1)
        have le : (cx B ρ st.hp w).le (cx B ρ2 hp2 w') := by
          refine ⟨hkept.size, fun b hb hF => hkept.block b hb (fun hc => ?_), fun b hb hF => ?_, by simp [hp2, killAll_len], fun n hn => by simp [ρ2, hn], rfl⟩
          . obtain ⟨m, _, hl, hmb⟩ := ob b hc
            exact hF (.inr ⟨m, hl, hmb⟩)
          . rcases hF with hF | ⟨n, ⟨o, ho⟩, hnb⟩
            . exact .inl hF
            . rcases live2 n o ho with ⟨_, h1, _, h2⟩ | ⟨_, _, v, h1, h2⟩
              . exact .inr ⟨n, ⟨o, h1⟩, by rw [← h2]; exact hnb⟩
              . rw [h2] at hnb
                rcases newBlk _ v b h1 hnb with h3 | ⟨m, _, hl, hmb⟩
                . simp only at hb; omega
                . exact .inr ⟨m, hl, hmb⟩
        -- what the results read
        have up : res.all AK.flat = true ∨ ∀ b, b < w'.heap.size → Forb B ρ2 hp2 b → Fb b ∨ ownBlk res us b := by
          refine hfl.imp id fun htk b _ hF => ?_
          have outs : Out b → ∃ m, m ∈ ownsR c.args args ∧ live st.hp m ∧ blk (ρ m) = some b := by
            rintro ⟨m, hm, h1, h2⟩
            rw [htk] at hm
            exact ⟨m, by simpa using hm, h1, h2⟩
          rcases hF with hF | ⟨n, ⟨o, ho⟩, hnb⟩
          . refine .inl ⟨.inl hF, fun hc => ?_⟩
            obtain ⟨m, _, hl, hmb⟩ := outs hc
            exact (h.h.own m b hl hmb).2 hF
          . rcases live2 n o ho with ⟨_, h1, h3, h2⟩ | ⟨_, _, v, h1, h2⟩
            . rw [h2] at hnb
              refine .inl ⟨.inr ⟨n, ⟨o, h1⟩, hnb⟩, fun hc => ?_⟩
              obtain ⟨m, hm, hl, hmb⟩ := outs hc
              have := h.h.sep m n b hl ⟨o, h1⟩ hmb hnb
              subst this
              exact h3 hm
            . rw [h2] at hnb
              exact .inr ⟨v, List.mem_iff_getElem?.2 ⟨_, h1⟩, hnb⟩
        have hR2 : StRel B ρ2 { st with hp := hp2 } a fs w' := by
          refine ⟨⟨h.h.kept.trans (S' := ownBlk c.args vs) hkept (fun b hb hc => ?_), fun n o ho => ?_, ?_, fun n b hn hnb => ?_, h.h.fb⟩, h.s.le le, h.kn, h.k.le le, h.d.le le, h.g⟩
          . obtain ⟨m, _, hl, hmb⟩ := ob b hc
            exact (h.h.own m b hl hmb).1.resolve_left (by omega)
          . rcases live2 n o ho with ⟨hn, h1, h3, h2⟩ | ⟨hn, h1, v, h3, h2⟩
            . rw [h2]
              refine (h.h.obj n o h1).le le (fun b hb => hkept.block b (h.h.live_block ⟨o, h1⟩ hb) (fun hc => ?_))
              obtain ⟨m, hm, hl, hmb⟩ := ob b hc
              have := h.h.sep m n b hl ⟨o, h1⟩ hmb hb
              subst this
              exact h3 hm
            . obtain ⟨u, hu, hr⟩ := canH_rel hR up _ o h1
              rw [h3] at hu
              cases hu
              rw [h2]
              exact hr _ rfl rfl
          . have key : ∀ n m b o o', hp2[n]? = some (some o) → hp2[m]? = some (some o') → blk (ρ2 n) = some b → blk (ρ2 m) = some b → n < st.hp.length → st.hp.length ≤ m → False := by
              intro n m b o o' hn hm hnb hmb h1 h2
              rcases live2 n o hn with ⟨_, h3, h4, h5⟩ | ⟨h3, _⟩
              . rcases live2 m o' hm with ⟨h6, _⟩ | ⟨_, _, v, h7, h8⟩
                . omega
                . rw [h5] at hnb
                  rw [h8] at hmb
                  rcases newBlk _ v b h7 hmb with h9 | ⟨q, hq, hl, hqb⟩
                  . have := h.h.live_block ⟨o, h3⟩ hnb; omega
                  . have := h.h.sep q n b hl ⟨o, h3⟩ hqb hnb
                    subst this
                    exact h4 hq
              . omega
            rintro n m b ⟨o, hn⟩ ⟨o', hm⟩ hnb hmb
            by_cases h1 : n < st.hp.length
            . by_cases h2 : m < st.hp.length
              . rcases live2 n o hn with ⟨_, h3, _, h4⟩ | ⟨h3, _⟩
                . rcases live2 m o' hm with ⟨_, h5, _, h6⟩ | ⟨h5, _⟩
                  . rw [h4] at hnb
                    rw [h6] at hmb
                    exact h.h.sep n m b ⟨o, h3⟩ ⟨o', h5⟩ hnb hmb
                  . omega
                . omega
              . exact (key n m b o o' hn hm hnb hmb h1 (by omega)).elim
            . by_cases h2 : m < st.hp.length
              . exact (key m n b o' o hm hn hmb hnb h2 (by omega)).elim
              . rcases live2 n o hn with ⟨h3, _⟩ | ⟨_, _, v, h3, h4⟩
                . omega
                . rcases live2 m o' hm with ⟨h5, _⟩ | ⟨_, _, u, h5, h6⟩
                  . omega
                  . rw [h4] at hnb
                    rw [h6] at hmb
                    have := hsep _ _ v u b h3 h5 hnb hmb
                    omega
          . obtain ⟨o, ho⟩ := hn
            rcases live2 n o ho with ⟨_, h3, _, h4⟩ | ⟨_, _, v, h3, h4⟩
            . rw [h4] at hnb
              exact h.h.own n b ⟨o, h3⟩ hnb
            . rw [h4] at hnb
              rcases newBlk _ v b h3 hnb with h5 | ⟨m, _, hl, hmb⟩
              . have hks := h.h.kept.size
                exact ⟨.inl (Nat.le_trans hks h5), fun hc => by have := (h.h.fb b hc).1; omega⟩
              . exact h.h.own m b hl hmb
        refine ⟨ρ2, hR2, can_rel (C := cx B ρ2 hp2 w') hR up ?_ ?_⟩
        . show st.hp.length + (canH res y).length ≤ (killAll st.hp (ownsR c.args args) ++ canH res y).length
          simp [killAll_len]
        . intro i v hv
          show ρ2 (st.hp.length + i) = v
          show (if st.hp.length + i < st.hp.length then ρ (st.hp.length + i) else (handles res us).getD (st.hp.length + i - st.hp.length) undef) = v
          rw [if_neg (by omega), Nat.add_sub_cancel_left, List.getD_eq_getElem?_getD, hv]
          rfl
      rcases hw with ⟨us, y, rfl, hpost, hkept, hR, hsep, hnew⟩ | ⟨hp1, hp3, u, y, rfl, hpost, hkept, hv⟩
      . obtain ⟨ρ2, h1, h2⟩ := after c.res us y hkept hR hsep hnew hflat'
        exact ⟨_, _, ρ2, hk y hR.wf hpost, h1, aggVal_rel h2⟩
      . obtain ⟨ρ2, h1, _⟩ := after [] [] () hkept rfl (fun i j v u b hi => by simp [handles] at hi) (fun b hb => by obtain ⟨v, hv, _⟩ := hb; simp [handles] at hv) (.inl rfl)
        rw [if_pos hp1] at hkp
        simp only [canH, List.append_nil] at h1
        refine ⟨_, _, _, ρ2, rfl, hkp y (as_wf hv) hpost, h1, ?_⟩
        obtain ⟨cs, h3, h4⟩ := hv
        exact ⟨u, rfl, cs, flat_rep hp3 h3, h4⟩
    . exact hk.elim
  . exact hk.elim
end
def assoc {α : Type} : List (Nat × α) → Nat → Option α
  | [], _ => none
  | (i, c) :: l, n => if n = i then some c else assoc l n
def AllOk {α : Type} (Ok : Nat → α → Prop) : List (Nat × α) → Prop
  | [] => True
  | (i, c) :: l => Ok i c ∧ AllOk Ok l
theorem assoc_ok {α : Type} {Ok : Nat → α → Prop} : ∀ {l : List (Nat × α)}, AllOk Ok l → ∀ f c, assoc l f = some c → Ok f c
  | [], _, f, c, h => by cases h
  | (i, c') :: l, ha, f, c, h => by
    simp only [assoc] at h
    split at h
    . rename_i e
      cases h
      rw [e]
      exact ha.1
    . exact assoc_ok ha.2 f c h
def mkEnv (T : Ty) (l : List (Nat × CallSem)) (q : List (Nat × (CallSem → CallSem))) (d : List (Nat × DefSem)) (keep : List Nat) : Env := { toTy := T, fns := assoc l, keep := keep, seqs := assoc q, dfs := assoc d }
theorem mkEnv_ok {T : Ty} {gl : Gl} {l : List (Nat × CallSem)} {q : List (Nat × (CallSem → CallSem))} {d : List (Nat × DefSem)} (keep : List Nat) (hT : T.Ok) (hm : T.P.follows .mixedOrders = true) (h : AllOk (CallOk T.P gl) l) (hq : AllOk (SeqOk T.P gl) q) (hd : AllOk (DefOk T.P gl) d) : (mkEnv T l q d keep).Ok gl :=
  ⟨hT, assoc_ok h, assoc_ok hq, assoc_ok hd, hm⟩
def mkEnvO (T : Ty) (l : List (Nat × CallSem)) (q : List (Nat × (CallSem → CallSem))) (d : List (Nat × DefSem)) (keep own : List Nat) : Env := { mkEnv T l q d keep with own := own }
theorem mkEnvO_ok {T : Ty} {gl : Gl} {l : List (Nat × CallSem)} {q : List (Nat × (CallSem → CallSem))} {d : List (Nat × DefSem)} (keep own : List Nat) (hT : T.Ok) (hm : T.P.follows .mixedOrders = true) (h : AllOk (CallOk T.P gl) l) (hq : AllOk (SeqOk T.P gl) q) (hd : AllOk (DefOk T.P gl) d) : (mkEnvO T l q d keep own).Ok gl :=
  ⟨hT, assoc_ok h, assoc_ok hq, assoc_ok hd, hm⟩
def bodyOf (f : Func) : Code := match f.body with | some c => c | none => .skip
structure Con.ok (P : Program) (gl : Gl) (f : Nat) (c : Con) : Prop where
  holds : c.holds P gl f
  call : CallOk P gl f (conSem c)
def plainFn (fn : Func) : Bool := fn.body.isSome && !(fn.name == "runtime.NumGoroutine")
def Env.plain (E : Env) : Bool := E.yld.isNone && !E.rnd
theorem plain_body {fn : Func} (hp : plainFn fn = true) : fn.body = some (bodyOf fn) ∧ (fn.name == "runtime.NumGoroutine") = false := by
  simp only [plainFn, Bool.and_eq_true, Bool.not_eq_true'] at hp
  obtain ⟨body, hb⟩ := Option.isSome_iff_exists.1 hp.1
  refine ⟨?_, hp.2⟩
  unfold bodyOf
  rw [hb]
section
variable {T : Ty} {gl : Gl} {l : List (Nat × CallSem)} {q : List (Nat × (CallSem → CallSem))} {d : List (Nat × DefSem)} {keep : List Nat}
theorem con_ok {H : Hints} (hE : (mkEnv T l q d keep).Ok gl) {f : Nat} {fn : Func} (hf : T.P.funcs[f]? = some fn) (hp : plainFn fn = true) {c : Con} (hc : c.vc gl (mkEnv T l q d keep) H fn.ntmps fn.results.toList (bodyOf fn)) : c.ok T.P gl f := by
  obtain ⟨hb, hn⟩ := plain_body hp
  have h := con_body hE hf hn hb rfl rfl hc
  exact ⟨h, callOk_con h (fn_enter hf hn hb)⟩
theorem conO_ok {own : List Nat} {H : Hints} (hE : (mkEnvO T l q d keep own).Ok gl) {f : Nat} {fn : Func} (hf : T.P.funcs[f]? = some fn) (hp : plainFn fn = true) {c : Con} (hc : c.vc gl (mkEnvO T l q d keep own) H fn.ntmps fn.results.toList (bodyOf fn)) : c.ok T.P gl f := by
  obtain ⟨hb, hn⟩ := plain_body hp
  have h := con_body hE hf hn hb rfl rfl hc
  exact ⟨h, callOk_con h (fn_enter hf hn hb)⟩
theorem inl_ok (H : Hints) (hE : (mkEnv T l q d keep).Ok gl) {f : Nat} {fn : Func} (hf : T.P.funcs[f]? = some fn) (hp : plainFn fn = true) : CallOk T.P gl f (vcFn (mkEnv T l q d keep) H fn.ntmps fn.results.toList (bodyOf fn)) := by
  obtain ⟨hb, hn⟩ := plain_body hp
  exact callOk_fn hE hf hn hb rfl rfl
theorem inlO_ok {own : List Nat} (H : Hints) (hE : (mkEnvO T l q d keep own).Ok gl) {f : Nat} {fn : Func} (hf : T.P.funcs[f]? = some fn) (hp : plainFn fn = true) : CallOk T.P gl f (vcFn (mkEnvO T l q d keep own) H fn.ntmps fn.results.toList (bodyOf fn)) := by
  obtain ⟨hb, hn⟩ := plain_body hp
  exact callOk_fn hE hf hn hb rfl rfl
def cutSem (c : CallSem) : CallSem := fun args st kv kp => c args st (fun s st' => st'.trunc s kv) kp
theorem cut_ok {P : Program} {gl : Gl} {f : Nat} {c : CallSem} (h : CallOk P gl f c) : CallOk P gl f (cutSem c) := by
  intro args st kv kp B ρ a fs w vs hg hc hr hv
  have mono : ∀ e w', CallPost B a fs (fun s st' => st'.trunc s kv) kp e w' → CallPost B a fs kv kp e w' := by
    intro e w' he
    cases e with
    | returned v =>
      obtain ⟨s, st', ρ', h1, h2, h3⟩ := he
      obtain ⟨s2, st2, ρ2, h4, h5, h6⟩ := trunc_sound h2 h3 h1
      exact ⟨s2, st2, ρ2, h4, h5, h6⟩
    | panicked ch => exact he
    | outgrown => exact he
  rcases h args st _ kp B ρ a fs w vs hg hc hr hv with ⟨h1, h2⟩ | ⟨v, h1, h2⟩
  . exact .inl ⟨h1, Calls.mono h2 mono⟩
  . exact .inr ⟨v, h1, mono _ _ h2⟩
theorem seq_ok (H : Hints) (hE : (mkEnv T l q d keep).Ok gl) {f : Nat} {fn : Func} (hf : T.P.funcs[f]? = some fn) (hp : plainFn fn = true) : SeqOk T.P gl f (vcSeq (mkEnv T l q d keep) H fn.ntmps fn.results.toList (bodyOf fn)) := by
  obtain ⟨hb, hn⟩ := plain_body hp
  exact seqOk_fn hE hf hn hb rfl
theorem def_ok (H : Hints) (hE : (mkEnv T l q d keep).Ok gl) {f : Nat} {fn : Func} (hf : T.P.funcs[f]? = some fn) (hp : plainFn fn = true) : DefOk T.P gl f (vcDef (mkEnv T l q d keep) H fn.ntmps fn.results.toList (bodyOf fn)) := by
  obtain ⟨hb, hn⟩ := plain_body hp
  exact defOk_fn hE hf hn hb rfl rfl
end
theorem owns_dat : ∀ (ks : List Kd) (r : List SV), ownsR (ks.map AK.dat) r = []
  | [], _ => rfl
  | _ :: _, [] => rfl
  | _ :: ks, _ :: r => owns_dat ks r
theorem ext_ok {P : Program} {gl : Gl} {f : Nat} {ks : List Kd} {k : Kd} {pre : ATup (ks.map AK.dat) → Prop} {post : ATup (ks.map AK.dat) → ATup [AK.dat k] → Prop} (hk0 : k.flat = true)
    (hf : ∀ (w : World) (F : Nat → Prop) (x : ATup (ks.map AK.dat)) (vs : List Value), AReps w F (ks.map AK.dat) x vs → pre x → ∃ u y, (callFunc f vs.toArray).run P w = .ok (.value u) w ∧ post x (y, ()) ∧ VRep w (fun _ => False) k y u) :
    CallOk P gl f (conSem { args := ks.map AK.dat, res := [.dat k], pre := pre, post := post }) := by
  intro args st kv kp B ρ a fs w vs hB hk h hr
  unfold conSem at hk
  have hfl : ([AK.dat k] : List AK).all AK.flat = true := by simp [AK.flat, hk0]
  simp only [hfl, if_true, Bool.true_or, Bool.and_true] at hk
  split at hk
  . split at hk
    . rename_i x hx
      obtain ⟨hpre, hk, _⟩ := hk
      have hA : AReps w (fun b => B.Fb b) (ks.map AK.dat) x vs := resT_rel h (srcs := []) (fun b hb => .inl hb) hx hr (fun m _ => by simp)
      obtain ⟨u, y, h1, h2, h3⟩ := hf w _ x vs hA hpre
      refine .inr ⟨u, h1, _, _, ρ, hk (y, ()) ⟨as_wf h3, trivial⟩ h2, ?_, ?_⟩
      . simp only [canH, List.append_nil, owns_dat, killAll]
        exact h
      . simp only [canA, aggVal, resVal]
        obtain ⟨cs, h4, h5⟩ := h3
        exact ⟨cs, flat_rep hk0 h4, h5⟩
    . exact hk.elim
  . exact hk.elim
end Go.Vc
end
section
namespace Go.Vc
open Go.RowKit Go.ChangeShapes
def Kd.bulk : (k : Kd) → k.T → Nat
  | .str, l => l.length + 1
  | .sl k, xs => (xs.map k.bulk).sum + 1
  | .pair a b, x => a.bulk x.1 + b.bulk x.2
  | .unit, _ => 0
  | .int _, _ => 1
  | .bool, _ => 1
  | .err, _ => 1
  | .fn, _ => 1
  | .arr _ k, xs => (xs.map k.bulk).sum
  | .mp k, xs => (xs.map fun x => k.bulk x.2 + 1).sum + 1
def AK.bulk : (a : AK) → a.T → Nat
  | .dat k, x => k.bulk x
  | .own _ k, xs => Kd.bulk (.sl k) xs
def ABulk : (l : List AK) → ATup l → Nat
  | [], _ => 0
  | a :: l, x => a.bulk x.1 + ABulk l x.2
theorem bulk_ints {i : IntKind} (xs : List Int) : Kd.bulk (.sl (.int i)) xs = xs.length + 1 := by
  show (xs.map (fun _ => 1)).sum + 1 = _
  induction xs with
  | nil => rfl
  | cons a l ih => simp only [List.map_cons, List.sum_cons, List.length_cons] at ih ⊢; omega
structure Counts (H : Type) where
  d : DataW H → Nat
  ds : List (DataW H) → Nat
  nil : ds [] = 0
  cons : ∀ x l, ds (x :: l) = d x + ds l
  lit : ∀ l, 1 ≤ d (.lit l)
  str : ∀ b, b.length + 1 ≤ d (.lit (.string b))
  none : 1 ≤ d .nil
  sl : ∀ a b, ds a + 1 ≤ d (.slice a b)
  agg : ∀ a, ds a ≤ d (.agg a)
mutual
/-- A type holds data of a kind. -/
def kOk (E : Ty) : Nat → Nat → Kd → Bool
  | 0, _, _ => false
  | n + 1, t, k => match E.d t, k with
    | .int i, .int j => decide (i = j)
    | .bool, .bool => true
    | .str, .str => true
    | .sl e, .sl k => kOk E n e k && decide (E.sz e = some k.sz) && decide (0 < k.sz)
    | .arr a e, .arr m k => decide (a = m) && kOk E n e k && decide (E.sz e = some k.sz) && decide (E.sz t = some (m * k.sz))
    | .st fs, k => fsOk E n 0 fs k && decide (E.sz t = some k.sz)
    | _, _ => false
def fsOk (E : Ty) : Nat → Nat → List (Nat × Nat) → Kd → Bool
  | 0, _, _, _ => false
  | n + 1, o, f :: r, .pair a b => kOk E n f.1 a && decide (f.2 = o) && decide (E.sz f.1 = some a.sz) &&
      (match r, b with
      | [], .unit => true
      | [g], _ => kOk E n g.1 b && decide (g.2 = o + a.sz) && decide (E.sz g.1 = some b.sz)
      | r, _ => fsOk E n (o + a.sz) r b)
  | _, _, _, _ => false
end
section
variable {H : Type} {enc : TypeId × Value → H} {w : World}
theorem sum_map_le {α : Type} {f : Nat → Nat} {g : α → Nat} {X : Nat → α} : ∀ (l : List Nat), (∀ i ∈ l, g (X i) ≤ f i) → ((l.map X).map g).sum ≤ (l.map f).sum
  | [], _ => by simp
  | i :: l, h => by
    have h1 := h i (by simp)
    have h2 := sum_map_le l (fun j hj => h j (by simp [hj]))
    simp only [List.map_cons, List.sum_cons]
    omega
theorem counts_map {C : Counts H} {D : Nat → DataW H} : ∀ (l : List Nat), C.ds (l.map D) = (l.map fun i => C.d (D i)).sum
  | [] => by simp [C.nil]
  | i :: l => by simp [C.cons, counts_map l]
theorem cellsOf_sz {E : Ty} (hE : E.Ok) {t n : Nat} (h : E.sz t = some n) : E.P.cellsOf t = n := by
  obtain ⟨inf, h1, h2, _⟩ := hE.sz h
  simp [Program.cellsOf, h1, h2]
theorem wf_inR {k : IntKind} {n : Int} (h : (Lit.int k n).wf = true) : InR k n := by
  simpa [Lit.wf, InR] using h
theorem trod_int' {P : Program} {fuel t : Nat} {i : IntKind} {cs : List Value} {x : DataW H × List MemPlace} (ht : P.underlying t = some (.int i)) (h : DataW.trod enc P w 0 (fun _ => true) true fuel t cs = some x) :
    ∃ n, cs = [.int i n] ∧ InR i n ∧ x = (.lit (.int i n), []) := by
  cases fuel with
  | zero => simp [DataW.trod] at h
  | succ fuel =>
    unfold DataW.trod at h
    simp only [ht] at h
    split at h
    all_goals first
      | (rename_i e; cases e; split at h
         . rename_i hc; cases h; obtain ⟨rfl, hw⟩ := hc; exact ⟨_, rfl, wf_inR hw, rfl⟩
         . cases h)
      | (rename_i e; cases e; done)
      | (cases h; done)
      | (rename_i e _; cases e; done)
      | (rename_i e _ _; cases e; done)
theorem trod_bool' {P : Program} {fuel t : Nat} {cs : List Value} {x : DataW H × List MemPlace} (ht : P.underlying t = some .bool) (h : DataW.trod enc P w 0 (fun _ => true) true fuel t cs = some x) :
    ∃ b, cs = [.bool b] ∧ x = (.lit (.bool b), []) := by
  cases fuel with
  | zero => simp [DataW.trod] at h
  | succ fuel =>
    unfold DataW.trod at h
    simp only [ht] at h
    split at h
    all_goals first
      | (cases h; exact ⟨_, rfl, rfl⟩)
      | (rename_i e; cases e; done)
      | (cases h; done)
      | (rename_i e _; cases e; done)
      | (rename_i e _ _; cases e; done)
theorem trod_str' {P : Program} {fuel t : Nat} {cs : List Value} {x : DataW H × List MemPlace} (ht : P.underlying t = some .string) (h : DataW.trod enc P w 0 (fun _ => true) true fuel t cs = some x) :
    ∃ s : ByteArray, cs = [.string s] ∧ s.size ≤ maxLen ∧ x = (.lit (.string s.data.toList), []) := by
  cases fuel with
  | zero => simp [DataW.trod] at h
  | succ fuel =>
    unfold DataW.trod at h
    simp only [ht] at h
    split at h
    all_goals first
      | (split at h
         . rename_i hc; cases h; exact ⟨_, rfl, hc, rfl⟩
         . cases h)
      | (rename_i e; cases e; done)
      | (cases h; done)
      | (rename_i e _; cases e; done)
      | (rename_i e _ _; cases e; done)
theorem trod_st' {P : Program} {fuel t : Nat} {fs : Array Field} {cs : List Value} {x : DataW H × List MemPlace} (ht : P.underlying t = some (.struct fs)) (h : DataW.trod enc P w 0 (fun _ => true) true fuel t cs = some x) :
    ∃ n xs, cs.length = P.cellsOf t ∧ (fs.toList.mapM fun f => DataW.trod enc P w 0 (fun _ => true) true n f.type ((cs.drop f.offset).take (P.cellsOf f.type))) = some xs ∧ x = (.agg (xs.map (·.1)), xs.flatMap (·.2)) := by
  cases fuel with
  | zero => simp [DataW.trod] at h
  | succ fuel =>
    unfold DataW.trod at h
    simp only [ht] at h
    split at h
    . rename_i hc
      obtain ⟨xs, h1, h2⟩ := Option.map_eq_some_iff.1 h
      exact ⟨fuel, xs, hc, h1, h2.symm⟩
    . cases h
theorem trod_arr' {P : Program} {fuel t a e : Nat} {cs : List Value} {x : DataW H × List MemPlace} (ht : P.underlying t = some (.array a e)) (h : DataW.trod enc P w 0 (fun _ => true) true fuel t cs = some x) :
    ∃ n xs, cs.length = P.cellsOf t ∧ ((List.range a).mapM fun i => DataW.trod enc P w 0 (fun _ => true) true n e ((cs.drop (i * P.cellsOf e)).take (P.cellsOf e))) = some xs ∧ x = (.agg (xs.map (·.1)), xs.flatMap (·.2)) := by
  cases fuel with
  | zero => simp [DataW.trod] at h
  | succ fuel =>
    unfold DataW.trod at h
    simp only [ht] at h
    split at h
    . rename_i hc
      obtain ⟨xs, h1, h2⟩ := Option.map_eq_some_iff.1 h
      exact ⟨fuel, xs, hc, h1, h2.symm⟩
    . cases h
theorem arr_rep {C : Counts H} {β : Type} {rep : β → List Value → Prop} {bulk : β → Nat} {f : List Value → Option (DataW H × List MemPlace)} {sz : Nat}
    (hf : ∀ c x, f c = some x → ∃ y, rep y c ∧ bulk y ≤ C.d x.1) : ∀ (a : Nat) (cs : List Value) (xs : List (DataW H × List MemPlace)), cs.length = a * sz →
    ((List.range a).mapM fun i => f ((cs.drop (i * sz)).take sz)) = some xs → ∃ ys : List β, ys.length = a ∧ RepL rep ys cs ∧ (ys.map bulk).sum ≤ C.ds (xs.map (·.1))
  | 0, cs, xs, hl, h => by
    have : cs = [] := List.eq_nil_of_length_eq_zero (by omega)
    subst this
    have : xs = [] := by simpa using h.symm
    subst this
    exact ⟨[], rfl, rfl, by simp⟩
  | a + 1, cs, xs, hl, h => by
    have hl' : cs.length = a * sz + sz := by rw [hl, Nat.add_mul, Nat.one_mul]
    rw [List.range_succ_eq_map, List.mapM_cons] at h
    obtain ⟨x1, h1, h⟩ := Option.bind_eq_some_iff.1 h
    obtain ⟨xr, h2, h⟩ := Option.bind_eq_some_iff.1 h
    cases h
    have h1 : f (cs.take sz) = some x1 := by simpa using h1
    have h2 : ((List.range a).mapM fun i => f (((cs.drop sz).drop (i * sz)).take sz)) = some xr := by
      rw [← h2, List.mapM_map]
      congr 1
      funext i
      simp only [Function.comp, List.drop_drop, Nat.succ_eq_add_one, Nat.add_mul, Nat.one_mul]
      rw [Nat.add_comm sz]
    obtain ⟨y, h3, h4⟩ := hf _ _ h1
    obtain ⟨ys, h5, h6, h7⟩ := arr_rep hf a (cs.drop sz) xr (by rw [List.length_drop]; omega) h2
    refine ⟨y :: ys, by simp [h5], ⟨_, _, (List.take_append_drop sz cs).symm, h3, h6⟩, ?_⟩
    rw [List.map_cons, List.map_cons, List.sum_cons, C.cons]
    omega
theorem trod_rep {E : Ty} (hE : E.Ok) (C : Counts H) : ∀ (n : Nat),
    (∀ (t : Nat) (k : Kd) (fuel : Nat) (cs : List Value) (x : DataW H × List MemPlace), kOk E n t k = true → DataW.trod enc E.P w 0 (fun _ => true) true fuel t cs = some x → ∃ y : k.T, Rep w (fun _ => False) k y cs ∧ k.bulk y ≤ C.d x.1) ∧
    (∀ (o : Nat) (fs : List Field) (k : Kd) (fuel : Nat) (cs : List Value) (xs : List (DataW H × List MemPlace)), fsOk E n o (fs.map fun f => (f.type, f.offset)) k = true →
      (fs.mapM fun f => DataW.trod enc E.P w 0 (fun _ => true) true fuel f.type ((cs.drop f.offset).take (E.P.cellsOf f.type))) = some xs →
      ∃ y : k.T, Rep w (fun _ => False) k y ((cs.drop o).take k.sz) ∧ k.bulk y ≤ C.ds (xs.map (·.1)))
  | 0 => ⟨fun _ _ _ _ _ h => by simp [kOk] at h, fun _ _ _ _ _ _ h => by simp [fsOk] at h⟩
  | n + 1 => by
    obtain ⟨ihA, ihB⟩ := trod_rep hE C n
    refine ⟨fun t k fuel cs x hk hx => ?_, fun o fs k fuel cs xs hk hx => ?_⟩
    . have hd := hE.d t
      simp only [kOk] at hk
      split at hk
      . rename_i i j e
        rw [e] at hd
        have hij : i = j := of_decide_eq_true hk
        subst hij
        obtain ⟨m, rfl, h1, rfl⟩ := trod_int' hd hx
        exact ⟨m, ⟨rfl, h1⟩, C.lit _⟩
      . rename_i e
        rw [e] at hd
        obtain ⟨b, rfl, rfl⟩ := trod_bool' hd hx
        exact ⟨b, rfl, C.lit _⟩
      . rename_i e
        rw [e] at hd
        obtain ⟨s, rfl, h1, rfl⟩ := trod_str' hd hx
        refine ⟨bs s, ⟨s, rfl, rfl, by simpa [maxLen] using h1⟩, ?_⟩
        have := C.str s.data.toList
        simp only [Kd.bulk, bs, List.length_map]
        exact this
      . rename_i e' k' e
        rw [e] at hd
        simp only [Bool.and_eq_true, decide_eq_true_eq] at hk
        obtain ⟨⟨hk1, hk2⟩, hk3⟩ := hk
        have hcell := cellsOf_sz hE hk2
        rcases Go.Deep.open_slice hd hx with ⟨rfl, rfl⟩ | ⟨a, len, cap, m, n', D, Pl, rfl, hb, hl, hm, hmm, rfl, hel⟩
        . exact ⟨[], ⟨none, 0, rfl, Nat.le_refl _, by omega, fun h => absurd rfl h⟩, by simpa [Kd.bulk] using C.none⟩
        . simp only [if_true] at hmm
          subst hmm
          haveI : Inhabited k'.T := ⟨k'.dft⟩
          obtain ⟨X, hX⟩ := Go.Deep.choose_lt (α := k'.T) (n := len) (p := fun i y => ∃ cs', World.cells? w 0 (a.add (i * E.P.cellsOf e')) (E.P.cellsOf e') = some cs' ∧ Rep w (fun _ => False) k' y cs' ∧ k'.bulk y ≤ C.d (D i)) (fun i hi => by
            obtain ⟨cs', h1, h2⟩ := hel i (by omega)
            obtain ⟨y, h3, h4⟩ := ihA _ _ _ _ _ hk1 h2
            exact ⟨y, cs', h1, h3, h4⟩)
          refine ⟨(List.range len).map X, ⟨some a, m, by simp, by simpa using hl, by simpa [maxLen] using hm, fun hne => ⟨a, rfl, ?_, fun h => h, fun i y hy => ?_⟩⟩, ?_⟩
          . have hpos : 0 < len := by
              cases len with
              | zero => simp at hne
              | succ n => omega
            obtain ⟨cs', h1, _, _⟩ := hX 0 hpos
            obtain ⟨_, h2, h3⟩ := World.cells?_some h1
            have hc0 : 0 < cs'.length := by omega
            have := h3 0 (by omega)
            rw [List.getElem?_eq_getElem hc0] at this
            have := cell_lt this
            rwa [add_block, add_block] at this
          . rw [List.getElem?_map] at hy
            obtain ⟨i', hi', rfl⟩ := Option.map_eq_some_iff.1 hy
            have hi := (List.getElem?_eq_some_iff.1 hi').1
            have hii := (List.getElem?_eq_some_iff.1 hi').2
            simp only [List.length_range] at hi
            simp only [List.getElem_range] at hii
            subst hii
            obtain ⟨cs', h1, h2, _⟩ := hX i hi
            refine ⟨cs', h2, fun j u hu => ?_⟩
            obtain ⟨_, h3, h4⟩ := World.cells?_some h1
            have hj := (List.getElem?_eq_some_iff.1 hu).1
            have := h4 j (by omega)
            rw [hu, addr_add_add, hcell] at this
            exact this
          . have h1 := C.sl ((List.range len).map D) ((List.range (m - len)).map fun j => D (len + j))
            have h2 : (((List.range len).map X).map k'.bulk).sum ≤ C.ds ((List.range len).map D) := by
              rw [counts_map]
              exact sum_map_le _ (fun i hi => by
                obtain ⟨_, _, _, h⟩ := hX i (by simpa using hi)
                exact h)
            simp only [Kd.bulk]
            omega
      . rename_i a' e' m' k' e
        rw [e] at hd
        have hd : E.P.underlying t = some (.array a' e') := hd
        simp only [Bool.and_eq_true, decide_eq_true_eq] at hk
        obtain ⟨⟨⟨rfl, hk1⟩, hk2⟩, hk3⟩ := hk
        obtain ⟨m, xs, h1, h2, rfl⟩ := trod_arr' hd hx
        rw [cellsOf_sz hE hk2] at h2
        obtain ⟨ys, h3, h4, h5⟩ := arr_rep (C := C) (rep := Rep w (fun _ => False) k') (bulk := k'.bulk) (fun c x h => ihA _ _ _ _ _ hk1 h) a' cs xs (by rw [h1, cellsOf_sz hE hk3]) h2
        exact ⟨ys, ⟨h3, h4⟩, Nat.le_trans h5 (C.agg _)⟩
      . rename_i k' fs e
        rw [e] at hd
        obtain ⟨hd1, hd2⟩ := hd
        simp only [Bool.and_eq_true, decide_eq_true_eq] at hk
        obtain ⟨hk1, hk2⟩ := hk
        obtain ⟨m, xs, h1, h2, rfl⟩ := trod_st' hd1 hx
        obtain ⟨y, h3, h4⟩ := ihB 0 (E.P.fieldsOf t).toList _ m cs xs (by rw [hd2]; exact hk1) h2
        rw [List.drop_zero, List.take_of_length_le (by rw [h1, cellsOf_sz hE hk2]; exact Nat.le_refl _)] at h3
        exact ⟨y, h3, Nat.le_trans h4 (C.agg _)⟩
      . cases hk
    . cases fs with
      | nil => cases k <;> simp [fsOk] at hk
      | cons f r =>
        cases k with
        | pair a b =>
          simp only [List.map_cons, fsOk, Bool.and_eq_true, decide_eq_true_eq] at hk
          obtain ⟨⟨⟨hk1, hk2⟩, hk3⟩, hk4⟩ := hk
          rw [List.mapM_cons] at hx
          obtain ⟨x1, h1, hx⟩ := Option.bind_eq_some_iff.1 hx
          obtain ⟨xr, h2, hx⟩ := Option.bind_eq_some_iff.1 hx
          cases hx
          obtain ⟨y1, h3, h4⟩ := ihA _ _ _ _ _ hk1 h1
          rw [cellsOf_sz hE hk3, hk2] at h3
          have two : ∀ y2 : b.T, Rep w (fun _ => False) b y2 ((cs.drop (o + a.sz)).take b.sz) → b.bulk y2 ≤ C.ds (xr.map (·.1)) →
              ∃ y : (Kd.pair a b).T, Rep w (fun _ => False) (.pair a b) y ((cs.drop o).take (Kd.pair a b).sz) ∧ (Kd.pair a b).bulk y ≤ C.ds ((x1 :: xr).map (·.1)) := by
            intro y2 h5 h6
            refine ⟨(y1, y2), ⟨_, _, ?_, h3, h5⟩, ?_⟩
            . show (cs.drop o).take (a.sz + b.sz) = _
              rw [List.take_add, List.drop_drop]
            . rw [List.map_cons, C.cons]
              simp only [Kd.bulk]
              omega
          split at hk4
          . rename_i e1
            have : r = [] := by simpa using e1
            subst this
            have : xr = [] := by simpa using h2.symm
            subst this
            exact two () (by show (cs.drop (o + a.sz)).take 0 = []; simp) (by simp [Kd.bulk])
          . rename_i g e1
            obtain ⟨g', r', rfl, rfl, hr'⟩ : ∃ g' r', r = g' :: r' ∧ g = (g'.type, g'.offset) ∧ r' = [] := by
              cases r with
              | nil => simp at e1
              | cons g' r' =>
                simp only [List.map_cons, List.cons.injEq, List.map_eq_nil_iff] at e1
                exact ⟨g', r', rfl, e1.1.symm, e1.2⟩
            subst hr'
            simp only [Bool.and_eq_true, decide_eq_true_eq] at hk4
            obtain ⟨⟨hk5, hk6⟩, hk7⟩ := hk4
            rw [List.mapM_cons] at h2
            obtain ⟨x2, h7, h2⟩ := Option.bind_eq_some_iff.1 h2
            have hx2 : xr = [x2] := by simpa using h2.symm
            subst hx2
            obtain ⟨y2, h8, h9⟩ := ihA _ _ _ _ _ hk5 h7
            rw [cellsOf_sz hE hk7, hk6] at h8
            exact two y2 h8 (by simp [C.cons, C.nil]; exact h9)
          . obtain ⟨y2, h8, h9⟩ := ihB _ _ _ _ _ _ hk4 h2
            exact two y2 h8 h9
        | _ => simp [fsOk] at hk
theorem fsOk_agg {E : Ty} {n o : Nat} {fs : List (Nat × Nat)} {k : Kd} (h : fsOk E n o fs k = true) : k.isAgg = true := by
  cases n with
  | zero => simp [fsOk] at h
  | succ n => cases fs <;> cases k <;> simp_all [fsOk, Kd.isAgg]
theorem vrep_of {E : Ty} (hE : E.Ok) {n t : Nat} {k : Kd} {y : k.T} {v : Value} {F : Nat → Prop} {r : Reach} {base : Nat} (hk : kOk E n t k = true) (hv : Value.okWide E.P w r base t v) (hr : Rep w F k y v.cells.toList) : VRep w F k y v := by
  have hd := hE.d t
  cases n with
  | zero => simp [kOk] at hk
  | succ n =>
    simp only [kOk] at hk
    split at hk
    . rename_i i j e
      rw [e] at hd
      obtain ⟨m, rfl⟩ := WideShapes.okWide_int hd hv
      exact ⟨_, hr, rfl⟩
    . rename_i e
      rw [e] at hd
      have hd : E.P.underlying t = some .bool := hd
      obtain ⟨b, rfl⟩ : ∃ b, v = .bool b := by
        simp only [Value.okWide, hd, Cell.okWide] at hv
        cases v <;> simp_all [Cell.ok]
      exact ⟨_, hr, rfl⟩
    . rename_i e
      rw [e] at hd
      obtain ⟨s, rfl⟩ := WideShapes.okWide_string hd hv
      exact ⟨_, hr, rfl⟩
    . rename_i e' k' e
      rw [e] at hd
      obtain ⟨a, l, c, rfl⟩ := WideShapes.okWide_slice hd hv
      exact ⟨_, hr, rfl⟩
    . rename_i e
      rw [e] at hd
      have hd : E.P.underlying t = some (.array _ _) := hd
      simp only [Value.okWide, hd] at hv
      obtain ⟨cs, rfl, _⟩ := hv
      exact ⟨cs.toList, hr, rfl⟩
    . rename_i e
      rw [e] at hd
      obtain ⟨hd1, _⟩ := hd
      simp only [Value.okWide, hd1] at hv
      obtain ⟨cs, rfl, _⟩ := hv
      refine ⟨cs.toList, hr, ?_⟩
      simp only [Bool.and_eq_true] at hk
      rw [if_pos (fsOk_agg hk.1)]
    . cases hk
def kAllOk (E : Ty) : List Nat → List Kd → Bool
  | [], [] => true
  | t :: ts, k :: ks => kOk E 20 t k && kAllOk E ts ks
  | _, _ => false
theorem trodAll_reps {E : Ty} (hE : E.Ok) (C : Counts H) {base : Nat} : ∀ {ts : List Nat} {ks : List Kd} {vs : List Value} {ds : List (DataW H)} {p : List MemPlace}, kAllOk E ts ks = true →
    (∀ (j : Nat) (t : Nat) (v : Value), ts[j]? = some t → vs[j]? = some v → Value.okWide E.P w .any base t v) → DataW.TrodAll enc E.P w 0 (fun _ => true) true ts vs ds p →
    ∃ x : ATup (ks.map AK.dat), AReps w (fun _ => False) (ks.map AK.dat) x vs ∧ ABulk _ x ≤ C.ds ds ∧ ds.length = ts.length
  | [], [], [], [], p, _, _, h => ⟨(), rfl, Nat.zero_le _, rfl⟩
  | [], [], _ :: _, _, p, _, _, h => h.elim
  | [], [], [], _ :: _, p, _, _, h => by simp [DataW.TrodAll] at h
  | [], _ :: _, _, _, _, hk, _, _ => by simp [kAllOk] at hk
  | _ :: _, [], _, _, _, hk, _, _ => by simp [kAllOk] at hk
  | t :: ts, k :: ks, vs, ds, p, hk, hv, h => by
    cases vs with
    | nil => simp [DataW.TrodAll] at h
    | cons v vs =>
      cases ds with
      | nil => simp [DataW.TrodAll] at h
      | cons d ds =>
        obtain ⟨p1, q, h1, h2, _⟩ := h
        simp only [kAllOk, Bool.and_eq_true] at hk
        obtain ⟨fuel, h3⟩ := h1
        obtain ⟨y, h4, h5⟩ := (trod_rep hE C 20).1 t k fuel _ _ hk.1 h3
        obtain ⟨x, h6, h7, h8⟩ := trodAll_reps hE C hk.2 (fun j t v ht hv' => hv (j + 1) t v ht hv') h2
        refine ⟨(y, x), ⟨v, vs, rfl, vrep_of hE hk.1 (hv 0 t v rfl rfl) h4, h6⟩, ?_, by simp [h8]⟩
        rw [C.cons]
        show k.bulk y + ABulk (ks.map AK.dat) x ≤ _
        exact Nat.add_le_add h5 h7
theorem handles_dat : ∀ (ks : List Kd) (vs : List Value), handles (ks.map AK.dat) vs = []
  | [], _ => rfl
  | _ :: _, [] => rfl
  | _ :: ks, _ :: vs => handles_dat ks vs
theorem below_trodAll {P : Program} (hl : laidOutB P = true) {W' : World} (hb : Below w.heap.size w W') : ∀ {ts : List Nat} {vs : List Value} {ds : List (DataW H)} {p : List MemPlace},
    (ts.all fun t => P.readableRec t && decide (t < P.types.size)) = true → (∀ x ∈ p, x.block < w.heap.size) → DataW.TrodAll enc P w 0 (fun _ => true) true ts vs ds p →
    DataW.TrodAll enc P W' 0 (fun b => decide (b < w.heap.size)) true ts vs ds p
  | [], [], [], p, _, _, h => h
  | [], _ :: _, _, p, _, _, h => by simp [DataW.TrodAll] at h
  | [], [], _ :: _, p, _, _, h => by simp [DataW.TrodAll] at h
  | t :: ts, vs, ds, p, hr, hlt, h => by
    cases vs with
    | nil => simp [DataW.TrodAll] at h
    | cons v vs =>
      cases ds with
      | nil => simp [DataW.TrodAll] at h
      | cons d ds =>
        obtain ⟨p1, q, h1, h2, rfl⟩ := h
        simp only [List.all_cons, Bool.and_eq_true, decide_eq_true_eq] at hr
        exact ⟨p1, q, Below.trod hl hr.1.1 hr.1.2 h1 hb (fun x hx => hlt x (List.mem_append.2 (.inl hx))), below_trodAll hl hb hr.2 (fun x hx => hlt x (List.mem_append.2 (.inr hx))) h2, rfl⟩
theorem law_call {E : Ty} (hE : E.Ok) (C : Counts H) {f : Nat} {fn : Func} {ks : List Kd} {pre : ATup (ks.map AK.dat) → Prop} {tb : Nat}
    {gl : Gl} (hc : ({ args := ks.map AK.dat, res := [AK.dat .bool], pre := pre, post := fun _ y => y.1 = true } : Con).holds E.P gl f) (hgl : GlOk gl w (fun _ => False)) (hl : laidOutB E.P = true)
    (hp : (fn.params.toList.all fun t => E.P.readableRec t && decide (t < E.P.types.size)) = true) (hk : kAllOk E fn.params.toList ks = true) (hres : fn.resultTypes.toList = [tb]) (htb : E.P.underlying tb = some .bool)
    {s : ChangeSpec} (hs : s.vars = []) (hfn : ∀ ds : List (DataW H), ds.length = fn.params.toList.length → s.fn H ds = { results := [.lit (.bool true)], args := ds })
    {base : Nat} {args : Array Value} {ds gs : List (DataW H)} {before : List MemPlace}
    (hval : ∀ (j : Nat) t v, fn.params[j]? = some t → args[j]? = some v → Value.okWide E.P w .any base t v)
    (hW : DataW.Whole enc E.P fn.params.toList s.vars false w args.toList ds gs before)
    (hpre : ∀ x : ATup (ks.map AK.dat), ABulk _ x ≤ C.ds (ds ++ gs) → pre x) :
    Calls E.P f args w fun e W' => ∃ v, e = .returned v ∧ s.post enc E.P fn false true false false w args v W' := by
  have hW' := hW
  obtain ⟨p, q, hA, hV, rfl, _, _⟩ := hW
  rw [hs] at hV
  obtain ⟨rfl, rfl⟩ := trodVars_none hV
  rw [List.append_nil] at hpre hW'
  obtain ⟨x, hx, hb, hlen⟩ := trodAll_reps hE C hk (fun j t v ht hv => hval j t v (by simpa using ht) (by simpa using hv)) hA
  have none : ∀ b, ¬ ownBlk (ks.map AK.dat) args.toList b := fun b hb => by
    obtain ⟨v, hv, _⟩ := hb
    rw [handles_dat] at hv
    cases hv
  have hFF : (fun b => False ∨ ownBlk (ks.map AK.dat) args.toList b) = fun _ => False := by
    funext b
    exact propext ⟨fun h => h.elim id (none b), fun h => h.elim⟩
  have hcall := hc w (fun _ => False) x args.toList (fun _ h => h.elim) (by rw [hFF]; exact hgl)
    (by
      have : (fun b => False ∨ ownBlk (ks.map AK.dat) args.toList b) = fun _ => False := by
        funext b
        exact propext ⟨fun h => h.elim id (none b), fun h => h.elim⟩
      rw [this]
      exact hx)
    (fun i j v u b hi => by rw [handles_dat] at hi; simp at hi) (hpre x hb)
  rw [Array.toArray_toList] at hcall
  refine hcall.mono fun e W' hw => ?_
  rcases hw with hw | hw
  case inr => cases hw.1
  obtain ⟨us, y, rfl, hy, hkept, hrep, _, _⟩ := hw
  have hbelow : Below w.heap.size w W' := Kept.below ⟨hkept.os, hkept.tape, hkept.output, hkept.size, fun b hb _ => hkept.block b hb (none b)⟩
  obtain ⟨v, r, rfl, h1, h2⟩ := hrep
  obtain rfl : r = [] := h2
  have hv := VRep_bool.1 h1
  subst hv
  have hy : y.1 = true := hy
  rw [hy]
  have hsz : fn.resultTypes.size = 1 := by
    have := congrArg List.length hres
    simpa using this
  refine ⟨_, rfl, ds, [], p, [], p, [], hW', ?_, ?_, ?_, hbelow.frame _, fun h => by cases h⟩
  . rw [List.append_nil, hfn ds hlen, hres, hsz]
    exact trodAll_mk1 (shut_bool htb true)
  . rw [List.append_nil, hfn ds hlen]
    exact below_trodAll hl hbelow hp (fun x hx => by simpa using hW'.lt x hx) hA
  . rw [List.append_nil, hfn ds hlen, hs]
    rfl
end
theorem dft_int (k : IntKind) : Kd.dft (Kd.int k) = (0 : Int) := rfl
theorem dft_sl (k : Kd) : Kd.dft (Kd.sl k) = ([] : List k.T) := rfl
theorem dft_str : Kd.dft Kd.str = ([] : List Int) := rfl
end Go.Vc
end
