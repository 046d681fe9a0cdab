/- One operation, and a region of them. -/
import Derived.Test.YtkdffofjnjamlaaZVcEff3
import Derived.StillTail
import Derived.Scope
import Derived.WalkSmall
namespace Go.Vc
open Go.RowKit

/-- What a function does, as the walk sees it: its arguments, a state, and what is asked behind a return or a panic. -/
abbrev CallSem := List SV → St → (SV → St → Prop) → (SV → St → Prop) → Prop

structure Env extends Ty where
  fns : Nat → Option CallSem
  keep : List Nat

def CallPost (B : Base) (a : Act) (fs : List (Array Value)) (kv kp : SV → St → Prop) : Ending → World → Prop
  | .returned v, w => ∃ s st ρ, kv s st ∧ StRel B ρ st a fs w ∧ s.rel (cx B ρ st.hp w) v
  | .panicked ch, w => ∃ v s st ρ, ch = [{ v := v, recovered := false }] ∧ kp s st ∧ StRel B ρ st a fs w ∧ s.rel (cx B ρ st.hp w) v
  | .outgrown, _ => False

def CallOk (P : Program) (f : Nat) (c : CallSem) : Prop :=
  (∀ args w, (callFunc f args).run P w = .ok (.enter f args) w) ∧
  ∀ args st kv kp B ρ a fs w vs, c args st kv kp → StRel B ρ st a fs w → SV.rels (cx B ρ st.hp w) args vs → Calls P f vs.toArray w (CallPost B a fs kv kp)

structure Env.Ok (E : Env) : Prop where
  ty : E.toTy.Ok
  fn : ∀ f c, E.fns f = some c → CallOk E.P f c
  mixed : E.P.follows .mixedOrders = true

def conj : List Prop → Prop → Prop
  | [], k => k
  | p :: l, k => p ∧ conj l k

theorem conj_all : ∀ {l : List Prop} {k : Prop}, conj l k → (∀ p ∈ l, p) ∧ k
  | [], _, h => ⟨(fun p hp => by cases hp), h⟩
  | p :: l, k, h => by
    obtain ⟨h1, h2⟩ := conj_all h.2
    exact ⟨fun q hq => by
      rcases List.mem_cons.1 hq with rfl | hq
      · exact h.1
      · exact h1 q hq, h2⟩

/-- A text's bytes, as data. -/
def St.toBytes (E : Ty) (st : St) (src dst : Nat) (s : SV) (kv : SV → St → Prop) : Prop :=
  match E.d src, E.d dst, s with
  | .str, .sl e, .dat .str l => if isU8 (E.d e) then kv (.dat (.sl (.int .u8)) l) st else False
  | _, _, _ => False

/-- A slice held against nil. -/
def St.eqNil (E : Ty) (st : St) (op : BinOp) (ty : Nat) (s t : SV) (kv : SV → St → Prop) : Prop :=
  match E.d ty, t with
  | .sl _, .cst c => if nilSlice c then
      match st.list s with
      | some ⟨_, xs⟩ => match op with
        | .eql => ∀ b : Bool, (b = true → xs = []) → kv (.dat .bool b) st
        | .neq => ∀ b : Bool, (b = false → xs = []) → kv (.dat .bool b) st
        | _ => False
      | none => False
    else False
  | _, _ => False

def vcCall (E : Env) (st : St) (c : Call) (kv kp : SV → St → Prop) : Prop :=
  match c.callee with
  | .builtin .append => match c.args.toList, c.argTypes.toList with
    | [s, x], [t, t'] => if t' = t then
        match st.ev x with
        | .dat .str _ => False
        | sx => st.append E.toTy t (st.ev s) sx kv
      else False
    | _, _ => False
  | .value (.func f) => match E.fns f with
    | some cs => cs (c.args.toList.map st.ev) st kv kp
    | none => False
  | .value x => match st.ev x with
    | .fn f cap => match E.fns f with
      | some cs => cs (c.args.toList.map st.ev ++ cap) st kv kp
      | none => False
    | _ => False
  | _ => False

def opnds : Op → List Operand
  | .call c => c.args.toList ++ (match c.callee with | .value x => [x] | _ => [])
  | .box _ x => [x]
  | .build _ p => p.toList.map (·.2)
  | .buildSlice _ _ p => p.toList.map (·.2)
  | .convert _ _ x => [x]
  | .binOp _ _ x y _ => [x, y]
  | .panic x => [x]
  | .makeSlice _ l c => [l, c]
  | _ => []

/-- Values that stand under a condition: the condition is asked for, the values are taken. -/
def St.ungate : List Operand → St → List Prop × St
  | [], st => ([], st)
  | .tmp t :: l, st => match st.sl.lookup t with
    | some (.gd p s) => ((p = true) :: (ungate l { st with sl := (t, s) :: st.sl }).1, (ungate l { st with sl := (t, s) :: st.sl }).2)
    | _ => ungate l st
  | _ :: l, st => ungate l st

/-- A choice whose question is answered. -/
def St.picked (st : St) : Op → Option Operand
  | .pick (.tmp t) x y => match st.kn.lookup t with
    | some true => some x
    | some false => some y
    | none => none
  | _ => none

def vcOp' (E : Env) (st : St) (o : Oper) (kv kp : SV → St → Prop) : Prop :=
  match o.op with
    | .box t x => st.box E.toTy t (st.ev x) kv
    | .alloc t => st.alloc E.toTy t kv
    | .build t parts => st.build E.toTy t parts.toList kv
    | .buildSlice t n parts => st.buildSlice E.toTy t n parts.toList kv
    | .store t ad x => conj (st.g ad).1 (conj (st.g x).1 (st.store E.toTy t (st.g ad).2 (st.g x).2 kv))
    | .pick c x y => match st.ev c with
      | .dat .bool b => (b = true → conj (st.g x).1 (kv (st.g x).2 st)) ∧ (b = false → conj (st.g y).1 (kv (st.g y).2 st))
      | _ => False
    | .convert src dst x => st.toBytes E.toTy src dst (st.ev x) kv
    | .makeSlice t l c => st.make E.toTy t (st.ev l) (st.ev c) kv
    | .binOp op ty x y _ => st.eqNil E.toTy op ty (st.ev x) (st.ev y) kv
    | .panic x => match st.ev x with
      | .ifc t s => kp (.ifc t s) st
      | _ => False
    | .call c => vcCall E st c kv kp
    | _ => False

def vcOp (E : Env) (st : St) (o : Oper) (kv kp : SV → St → Prop) : Prop :=
  match st.picked o.op with
  | some x => conj (st.g x).1 (kv (st.g x).2 st)
  | none => match st.op1 E.toTy o with
    | some (obs, s) => conj obs (kv s st)
    | none => conj (st.ungate (opnds o.op)).1 (vcOp' E (st.ungate (opnds o.op)).2 o kv kp)

section
variable {E : Env} {B : Base} {ρ : Nat → Value} {st : St} {a : Act} {fs : List (Array Value)} {w : World} {kv kp : SV → St → Prop}

theorem StRel.grow {w' : World} (h : StRel B ρ st a fs w) (hg : w.grownBy w' none) : StRel B ρ st a fs w' := by
  have le : (cx B ρ st.hp w).le (cx B ρ st.hp w') := ⟨hg.size, fun b hb _ => hg.block b hb (by simp), fun _ _ h => h, Nat.le_refl _, fun _ _ => rfl⟩
  refine ⟨⟨h.h.kept.trans (S' := fun _ => False) ⟨hg.os, hg.tape, hg.output, hg.size, fun b hb _ => hg.block b hb (by simp)⟩ (fun _ _ h => h.elim),
    fun n o ho => (h.h.obj n o ho).le le (fun b hb => hg.block b (h.h.live_block ⟨o, ho⟩ hb) (by simp)), h.h.sep, h.h.own, h.h.fb⟩, h.s.le le, h.kn, h.k.le le, h.d⟩

theorem toBytes_sound (hE : E.Ok) (h : StRel B ρ st a fs w) {src dst : Nat} {x : Operand} {o : Oper} (e : o.op = .convert src dst x) (hk : st.toBytes E.toTy src dst (st.ev x) kv) : Yield E.toTy B o a fs w kv := by
  have hs := hE.ty.d src
  have hd := hE.ty.d dst
  have hx := ev_rel h x
  unfold St.toBytes at hk
  split at hk
  · rename_i el l e1 e2 e3
    rw [e1] at hs
    rw [e2] at hd
    rw [e3] at hx
    split at hk
    · rename_i h8
      have he := hE.ty.d el
      rw [isU8_eq h8] at he
      obtain ⟨s, hs1, hs2, hs3⟩ := VRep_str.1 hx
      have hrun := run_bytes_of_string (P := E.P) w src dst el s hs hd he
      have hg : w.grownBy (w.drew.alloc (.cells (bytesRow s (grownCap w s.size 0 el)) el ((bytesRow s (grownCap w s.size 0 el)).size, (bytesRow s (grownCap w s.size 0 el)).size + 1))) none :=
        ⟨rfl, rfl, rfl, by simp, fun k hk _ => Below.heap_alloc w.drew _ k hk⟩
      have h2 := h.grow hg
      refine ⟨_, _, _, _, ρ, .slice (some ⟨w.heap.size, 0, none⟩) s.size (grownCap w s.size 0 el), ?_, .inl rfl, hk, h2, VRep_sl.2 ⟨some ⟨w.heap.size, 0, none⟩, grownCap w s.size 0 el, ?_, ?_, ?_, fun hne => ⟨_, rfl, by simp, ?_, fun i y hy => ?_⟩⟩⟩
      · unfold execOp
        rw [e]
        simp only [hs1, Sem.run_bind, hrun, Result.andThen_ok, Sem.run_pure]
      · rw [← hs2, bs_length]
      · rw [← hs2, bs_length]; exact grownCap_ge _ _ _ _
      · have := grownCap_le_maxLen w s.size 0 el (by simp only [maxLen]; omega)
        simpa [maxLen] using this
      · rintro (hF | ⟨m, hm, hb⟩)
        · have := (h.h.fb _ hF).1
          have := h.h.kept.size
          simp only at *
          omega
        · have := h.h.live_block hm hb
          simp only at *
          omega
      · rw [← hs2] at hy
        have hi : i < s.size := by
          have := (List.getElem?_eq_some_iff.1 hy).1
          rwa [bs_length] at this
        have hy2 : y = (s.data[i]'(by simpa using hi)).toNat := by
          have := (List.getElem?_eq_some_iff.1 hy).2
          simpa [bs] using this.symm
        refine ⟨[.int .u8 y], ⟨rfl, ?_⟩, fun j u hu => ?_⟩
        · have := (s.data[i]'(by simpa using hi)).toNat_lt
          rw [hy2]
          constructor <;> simp [IntKind.min, IntKind.max, IntKind.signed, IntKind.bits] <;> omega
        · cases j with
          | zero =>
            cases hu
            have hb := bytesRow_at s (grownCap w s.size 0 el) i (by simpa using hi)
            rw [addr_add]
            simp only [Kd.sz, Nat.mul_one, Nat.add_zero, Nat.zero_add]
            have hn : (w.drew.alloc (.cells (bytesRow s (grownCap w s.size 0 el)) el ((bytesRow s (grownCap w s.size 0 el)).size, (bytesRow s (grownCap w s.size 0 el)).size + 1))).heap[w.heap.size]? = _ := heap_alloc_new w.drew _
            unfold World.cell?
            simp only [hn]
            rw [hy2]
            simpa using hb
          | succ j => simp at hu
    · exact hk.elim
  · exact hk.elim

theorem nil_any {P : Program} {t e : Nat} (hd : P.underlying t = some (.slice e)) (d : Nat) (A : Option Addr) (n c : Nat) : (Op.equalIn (d + 1) t (.slice A n c) (.slice none 0 0)).run P w = .ok A.isNone w := by
  cases A <;> simp [Op.equalIn, run_underlying hd]

theorem eqNil_sound (hE : E.Ok) (h : StRel B ρ st a fs w) {op : BinOp} {ty yt : Nat} {x y : Operand} {o : Oper} (e : o.op = .binOp op ty x y yt) (hk : st.eqNil E.toTy op ty (st.ev x) (st.ev y) kv) : Yield E.toTy B o a fs w kv := by
  have hd := hE.ty.d ty
  have hx := ev_rel h x
  have hy := ev_rel h y
  unfold St.eqNil at hk
  split at hk
  · rename_i el c e1 e2
    rw [e1] at hd
    rw [e2] at hy
    have hd : E.P.underlying ty = some (.slice el) := hd
    have hy : a.eval y = c := hy
    split at hk
    · rename_i hn
      rw [nilSlice_eq hn] at hy
      split at hk
      · rename_i k xs hl
        obtain ⟨A, cc, hv, h1, _, h2⟩ := list_rel h hx hl
        have hnil : A.isNone = true → xs = [] := by
          intro hA
          cases xs with
          | nil => rfl
          | cons u l => obtain ⟨ad, hA', _⟩ := h2 (by simp); rw [hA'] at hA; cases hA
        have q : (Op.equal ty (.slice A xs.length cc) (.slice none 0 0)).run E.P w = .ok A.isNone w := nil_any hd 9999 A _ _
        split at hk
        · refine ⟨_, w, _, st, ρ, .bool A.isNone, ?_, .inl rfl, hk A.isNone hnil, h, VRep_bool.2 rfl⟩
          unfold execOp
          rw [e]
          simp only [hv, hy, eqGuard, binOp, Sem.run_bind, Sem.run_pure]
          simp [q]
        · refine ⟨_, w, _, st, ρ, .bool (!A.isNone), ?_, .inl rfl, hk (!A.isNone) (by simpa using hnil), h, VRep_bool.2 rfl⟩
          unfold execOp
          rw [e]
          simp only [hv, hy, eqGuard, binOp, Sem.run_bind, Sem.run_pure]
          simp [q]
        · exact hk.elim
      · exact hk.elim
    · exact hk.elim
  · exact hk.elim

theorem wp_of_yield {next : Act → World → Prop} {Q : Exit → Act → World → Prop} {o : Oper} (hy : Yield E.toTy B o a fs w kv)
    (hv : ∀ s st' ρ' v w', kv s st' → StRel B ρ' st' a fs w' → s.rel (cx B ρ' st'.hp w') v → next (a.put o.dst v) w') : o.wp E.P a w next Q := by
  obtain ⟨n, w', s, st', ρ', v, h1, h2, h3, h4, h5⟩ := hy
  unfold Oper.wp
  rw [h1]
  rcases h2 with rfl | ⟨rfl, rfl⟩
  · exact hv _ _ _ _ _ h3 h4 h5
  · exact hv _ _ _ _ _ h3 h4 h5

theorem vcCall_sound (hE : E.Ok) (h : StRel B ρ st a fs w) {o : Oper} {c : Call} (e : o.op = .call c) (hk : vcCall E st c kv kp) {next : Act → World → Prop} {Q : Exit → Act → World → Prop}
    (hv : ∀ s st' ρ' v w', kv s st' → StRel B ρ' st' a fs w' → s.rel (cx B ρ' st'.hp w') v → next (a.put o.dst v) w')
    (hp : ∀ s st' ρ' v w', kp s st' → StRel B ρ' st' a fs w' → s.rel (cx B ρ' st'.hp w') v → Q (.panic [{ v := v, recovered := false }]) a w') : o.wp E.P a w next Q := by
  have enter : ∀ (f : Nat) (cs : CallSem) (args : List SV) (vs : List Value), E.fns f = some cs → cs args st kv kp → SV.rels (cx B ρ st.hp w) args vs →
      (execOp a.eval o).run E.P w = .ok (.enter f vs.toArray) w → o.wp E.P a w next Q := by
    intro f cs args vs hf hcs hr hrun
    unfold Oper.wp
    rw [hrun, Oper.upon_enter]
    refine ((hE.fn f cs hf).2 args st kv kp B ρ a fs w vs hcs h hr).mono fun en w' hw => ?_
    cases en with
    | returned v => obtain ⟨s, st', ρ', h1, h2, h3⟩ := hw; exact hv _ _ _ _ _ h1 h2 h3
    | panicked ch => obtain ⟨v, s, st', ρ', rfl, h1, h2, h3⟩ := hw; exact hp _ _ _ _ _ h1 h2 h3
    | outgrown => exact hw.elim
  unfold vcCall at hk
  split at hk
  · rename_i hc
    split at hk
    · rename_i s x t t' e1 e2
      split at hk
      · rename_i htt
        subst htt
        have e1 : c.args = #[s, x] := by apply Array.ext'; simpa using e1
        have e2 : c.argTypes = #[t', t'] := by apply Array.ext'; simpa using e2
        split at hk
        · exact hk.elim
        · rename_i hstr
          exact wp_of_yield (append_sound hE.ty h e hc e1 e2 (fun l hl => hstr l hl) hk) hv
      · exact hk.elim
    · exact hk.elim
  · rename_i f hc
    split at hk
    · rename_i cs hf
      refine enter f cs _ (c.args.toList.map a.eval) hf hk (evs_rel h _) ?_
      unfold execOp
      rw [e]
      simp only [resolve, hc, Act.eval, Deferred.ofValue, Sem.run_bind, Sem.run_pure, Result.andThen_ok, invoke]
      have := (hE.fn f cs hf).1 (c.args.map a.eval) w
      rw [show (#[] ++ c.args.map a.eval ++ #[]) = c.args.map a.eval by simp, this]
      rw [← List.map_toArray, Array.toArray_toList]
    · exact hk.elim
  · rename_i x hnf hc
    split at hk
    · rename_i f cap hx
      have hxr := ev_rel h x
      rw [hx] at hxr
      obtain ⟨cvs, hxe, hcr⟩ := hxr
      split at hk
      · rename_i cs hf
        refine enter f cs _ (c.args.toList.map a.eval ++ cvs) hf hk (rels_append (evs_rel h _) hcr) ?_
        unfold execOp
        rw [e]
        simp only [resolve, hc, hxe, Deferred.ofValue, Sem.run_bind, Sem.run_pure, Result.andThen_ok, invoke]
        have := (hE.fn f cs hf).1 (c.args.map a.eval ++ cvs.toArray) w
        rw [show (#[] ++ c.args.map a.eval ++ cvs.toArray) = c.args.map a.eval ++ cvs.toArray by simp, this]
        congr 2
        apply Array.ext'
        simp
      · exact hk.elim
    · exact hk.elim
  · exact hk.elim

theorem lookup_mem {t : Nat} {b : Bool} : ∀ {l : List (Nat × Bool)}, l.lookup t = some b → (t, b) ∈ l
  | [], h => by cases h
  | (i, c) :: l, h => by
    by_cases e : t = i
    · subst e
      simp [List.lookup] at h
      subst h
      exact List.mem_cons_self
    · have : (t == i) = false := by simp [e]
      simp only [List.lookup, this] at h
      exact List.mem_cons_of_mem _ (lookup_mem h)

theorem ungate_rel : ∀ (l : List Operand) {st : St}, StRel B ρ st a fs w → (∀ p ∈ (st.ungate l).1, p) → StRel B ρ (st.ungate l).2 a fs w
  | [], st, h, _ => h
  | .const _ :: l, st, h, hp => ungate_rel l h hp
  | .func _ :: l, st, h, hp => ungate_rel l h hp
  | .global _ :: l, st, h, hp => ungate_rel l h hp
  | .tmp t :: l, st, h, hp => by
    simp only [St.ungate] at hp ⊢
    split at hp
    · rename_i p s e
      refine ungate_rel l (st := { st with sl := (t, s) :: st.sl }) ⟨h.h, ⟨h.s.1, fun i s' hs => ?_⟩, h.kn, h.k, h.d⟩ (fun q hq => hp q (List.mem_cons_of_mem _ hq))
      simp only at hs
      rw [lookup_cons] at hs
      split at hs
      · rename_i ei
        cases hs
        subst ei
        obtain ⟨h1, h2⟩ := h.s.2 i _ e
        exact ⟨h1, h2 (hp _ List.mem_cons_self)⟩
      · exact h.s.2 i s' hs
    · exact ungate_rel l h hp

theorem vcOp'_sound (hE : E.Ok) (h : StRel B ρ st a fs w) {o : Oper} (hk : vcOp' E st o kv kp) {next : Act → World → Prop} {Q : Exit → Act → World → Prop}
    (hv : ∀ s st' ρ' v w', kv s st' → StRel B ρ' st' a fs w' → s.rel (cx B ρ' st'.hp w') v → next (a.put o.dst v) w')
    (hp : ∀ s st' ρ' v w', kp s st' → StRel B ρ' st' a fs w' → s.rel (cx B ρ' st'.hp w') v → Q (.panic [{ v := v, recovered := false }]) a w') : o.wp E.P a w next Q := by
  unfold vcOp' at hk
  split at hk
  · rename_i t x e; exact wp_of_yield (box_sound h e hk) hv
  · rename_i t e; exact wp_of_yield (alloc_sound hE.ty h e hk) hv
  · rename_i t parts e; exact wp_of_yield (build_sound hE.ty h e hk) hv
  · rename_i t n parts e; exact wp_of_yield (buildSlice_sound hE.ty h e hk) hv
  · rename_i t ad x e
    obtain ⟨h2, h3⟩ := conj_all hk
    obtain ⟨h4, h5⟩ := conj_all h3
    exact wp_of_yield (store_sound hE.ty h e (g_rel h ad h2) (g_rel h x h4) h5) hv
  · rename_i c x y e
    split at hk
    · rename_i b hb
      have hc := ev_rel h c
      rw [hb] at hc
      have hc := VRep_bool.1 hc
      have hrun : (execOp a.eval o).run E.P w = .ok (.value (if b then a.eval x else a.eval y)) w := by
        unfold execOp
        rw [e]
        simp only [hc]
        rfl
      unfold Oper.wp
      rw [hrun]
      cases b with
      | true =>
        obtain ⟨h1, h2⟩ := conj_all (hk.1 rfl)
        exact hv _ _ _ _ _ h2 h (g_rel h x h1)
      | false =>
        obtain ⟨h1, h2⟩ := conj_all (hk.2 rfl)
        exact hv _ _ _ _ _ h2 h (g_rel h y h1)
    · exact hk.elim
  · rename_i src dst x e; exact wp_of_yield (toBytes_sound hE h e hk) hv
  · rename_i t l c e; exact wp_of_yield (make_sound hE.ty h e hk) hv
  · rename_i op ty x y yt e; exact wp_of_yield (eqNil_sound hE h e hk) hv
  · rename_i x e
    split at hk
    · rename_i t s hx
      have hxr := ev_rel h x
      rw [hx] at hxr
      have hxr' := hxr
      obtain ⟨u, hu, _⟩ := hxr
      have hrun : (execOp a.eval o).run E.P w = .halt (.panic (a.eval x)) w := by
        unfold execOp
        rw [e]
        dsimp only
        rw [hu]
        rfl
      unfold Oper.wp
      rw [hrun, Oper.upon_panic]
      exact hp _ _ _ _ _ hk h hxr'
    · exact hk.elim
  · rename_i c e; exact vcCall_sound hE h e hk hv hp
  · exact hk.elim

theorem vcOp_sound (hE : E.Ok) (h : StRel B ρ st a fs w) {o : Oper} (hk : vcOp E st o kv kp) {next : Act → World → Prop} {Q : Exit → Act → World → Prop}
    (hv : ∀ s st' ρ' v w', kv s st' → StRel B ρ' st' a fs w' → s.rel (cx B ρ' st'.hp w') v → next (a.put o.dst v) w')
    (hp : ∀ s st' ρ' v w', kp s st' → StRel B ρ' st' a fs w' → s.rel (cx B ρ' st'.hp w') v → Q (.panic [{ v := v, recovered := false }]) a w') : o.wp E.P a w next Q := by
  unfold vcOp at hk
  split at hk
  · rename_i x e
    obtain ⟨h1, h2⟩ := conj_all hk
    have hrun : (execOp a.eval o).run E.P w = .ok (.value (a.eval x)) w := by
      unfold St.picked at e
      split at e
      · rename_i t x' y' eo
        split at e
        · rename_i ek
          cases e
          have := (h.kn t true (lookup_mem ek)).2
          unfold execOp
          rw [eo]
          simp only [Act.eval, this]
          rfl
        · rename_i ek
          cases e
          have := (h.kn t false (lookup_mem ek)).2
          unfold execOp
          rw [eo]
          simp only [Act.eval, this]
          rfl
        · cases e
      · cases e
    unfold Oper.wp
    rw [hrun]
    exact hv _ _ _ _ _ h2 h (g_rel h x h1)
  · split at hk
    · rename_i obs s h1
      obtain ⟨h2, h3⟩ := conj_all hk
      obtain ⟨v, h4, h5⟩ := op1_sound hE.ty h h1 h2
      unfold Oper.wp
      rw [h4]
      exact hv _ _ _ _ _ h3 h h5
    · obtain ⟨h2, h3⟩ := conj_all hk
      exact vcOp'_sound hE (ungate_rel _ h h2) h3 hv hp
end
end Go.Vc
