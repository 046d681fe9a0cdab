/- One operation, and a region of them. -/
import Derived.Test.YtkdffofjnjamlaaDoorZVcMk
import Derived.StillTail
import Derived.Scope
import Derived.WalkSmall
import Derived.RangeFuncRecord
import Derived.RangeFuncCalls
import Derived.RecoverIn
import Derived.Lib.DecodeN
set_option linter.unusedVariables false
set_option linter.unusedSimpArgs false
namespace Go.Vc
open Go.RowKit

/-- What a function does, as the walk sees it: its arguments, a state, and what is asked behind a return or a panic. -/
abbrev CallSem := List SV → St → (SV → St → Prop) → (SV → St → Prop) → Prop

/-- What a deferred function does: what it has caught, a state, the value that is on its way, what is asked behind it. -/
abbrev DefSem := List SV → St → Option SV → (St → Option SV → Prop) → Prop

structure Env extends Ty where
  fns : Nat → Option CallSem
  keep : List Nat
  seqs : Nat → Option (CallSem → CallSem) := fun _ => none
  dfs : Nat → Option DefSem := fun _ => none
  yld : Option CallSem := none
  /-- Slots whose bytes of a text are a row of the walk's own. -/
  own : List Nat := []
  rnd : Bool := false

def CallPost (B : Base) (a : Act) (fs : List Act) (kv kp : SV → St → Prop) : Ending → World → Prop
  | .returned v, w => ∃ s st ρ, kv s st ∧ StRel B ρ st a fs w ∧ s.rel (cx B ρ st.hp w) v
  | .panicked ch, w => ∃ v s st ρ, ch = [{ v := v, recovered := false }] ∧ kp s st ∧ StRel B ρ st a fs w ∧ s.rel (cx B ρ st.hp w) v
  | .outgrown, _ => False

/-- A call comes to its end: by a body, or at once. -/
def Goes (P : Program) (f : Nat) (args : Array Value) (w : World) (R : Ending → World → Prop) : Prop :=
  ((callFunc f args).run P w = .ok (.enter f args) w ∧ Calls P f args w R) ∨ ∃ v, (callFunc f args).run P w = .ok (.value v) w ∧ R (.returned v) w

def CallOk (P : Program) (gl : Gl) (f : Nat) (c : CallSem) : Prop :=
  ∀ args st kv kp B ρ a fs w vs, B.gl = gl → c args st kv kp → StRel B ρ st a fs w → SV.rels (cx B ρ st.hp w) args vs → Goes P f vs.toArray w (CallPost B a fs kv kp)

/-- A call of yield: it comes to a round. -/
def YieldOk (P : Program) (B : Base) (fs : List Act) (h : CallSem) : Prop :=
  ∀ args st kv kp ρ a w vs, h args st kv kp → StRel B ρ st a fs w → SV.rels (cx B ρ st.hp w) args vs →
    ∃ fn tmps assign body, (Instr.yield B.lp vs.toArray).run P w = .ok (.round B.lp fn tmps assign body) w ∧ RoundIn Fence.wide 0 P B.lp fn tmps assign body w (CallPost B a fs kv kp)

/-- A function that is ranged over. -/
def SeqOk (P : Program) (gl : Gl) (f : Nat) (q : CallSem → CallSem) : Prop :=
  (∀ args w, (callFunc f args).run P w = .ok (.enter f args) w) ∧
  ∀ h args st kv kp B ρ a fs w vs, B.gl = gl → YieldOk P B (a :: fs) h → q h args st kv kp → StRel B ρ st a fs w → SV.rels (cx B ρ st.hp w) args vs → Calls P f vs.toArray w (CallPost B a fs kv kp)

/-- A deferred function, as its frame is left: by a return, or by a panic. -/
def modeOf : Option Value → FrameMode
  | none => .returning
  | some v => .panicking [{ v := v, recovered := false }]
def ORel (C : Cx) : Option SV → Option Value → Prop
  | none, o => o = none
  | some s, o => ∃ v, o = some v ∧ s.rel C v
def DefPost (B : Base) (a : Act) (fs : List Act) (K : St → Option SV → Prop) : Ending → FrameMode → World → Prop
  | .returned _, u, w => ∃ st p ρ o, K st p ∧ StRel B ρ st a fs w ∧ ORel (cx B ρ st.hp w) p o ∧ settle u = modeOf o
  | _, _, _ => False
def DefOk (P : Program) (gl : Gl) (f : Nat) (d : DefSem) : Prop :=
  (∀ args w, (callFunc f args).run P w = .ok (.enter f args) w) ∧
  ∀ cap st p K B ρ a fs w vs o, B.gl = gl → d cap st p K → StRel B ρ st a fs w → SV.rels (cx B ρ st.hp w) cap vs → ORel (cx B ρ st.hp w) p o → CallsDIn Fence.wide 0 P f vs.toArray (modeOf o) w (DefPost B a fs K)

structure Env.Ok (E : Env) (gl : Gl) : Prop where
  ty : E.toTy.Ok
  fn : ∀ f c, E.fns f = some c → CallOk E.P gl f c
  seq : ∀ f q, E.seqs f = some q → SeqOk E.P gl f q
  df : ∀ f d, E.dfs f = some d → DefOk E.P gl f d
  mixed : E.P.follows .mixedOrders = true

/-- A text's bytes, as data. -/
def St.toBytes (E : Ty) (st : St) (src dst : Nat) (s : SV) (kv : SV → St → Prop) : Prop :=
  match E.d src, E.d dst, s with
  | .str, .sl e, .dat .str l => if isU8 (E.d e) then kv (.dat (.sl (.int .u8)) l) st else False
  | _, _, _ => False

/-- A text's bytes, as a row of the walk's own. -/
def St.toRow (E : Ty) (st : St) (src dst : Nat) (s : SV) (kv : SV → St → Prop) : Prop :=
  match E.d src, E.d dst, s with
  | .str, .sl e, .dat .str l => if isU8 (E.d e) then kv (.own st.hp.length) { st with hp := st.hp ++ [some (.row (e + BIG) (.int .u8) l)] } else False
  | _, _, _ => False
def ownDst (l : List Nat) : Option Nat → Bool
  | some d => l.contains d
  | none => false

/-- A slice held against nil. -/
def St.eqNil (E : Ty) (st : St) (op : BinOp) (ty : Nat) (s t : SV) (kv : SV → St → Prop) : Prop :=
  match E.d ty, t with
  | .sl _, .cst c => if nilSlice c then
      match st.list s with
      | some ⟨_, xs⟩ => match op with
        | .eql => ∀ b : Bool, (b = true → xs = []) → kv (.dat .bool b) st
        | .neq => ∀ b : Bool, (b = false → xs = []) → kv (.dat .bool b) st
        | _ => False
      | none => False
    else False
  | _, _ => False

/-- How much room a slice has. -/
def St.capOf (E : Ty) (st : St) (t : Nat) (x : SV) (kv : SV → St → Prop) : Prop :=
  match E.d t, x with
  | .sl _, .cst c => if nilSlice c then kv (.dat (.int .i64) (0 : Int)) st else False
  | .sl _, x => match st.list x with
    | some ⟨_, xs⟩ => ∀ c : Int, (xs.length : Int) ≤ c → c ≤ 9223372036854775807 → kv (.dat (.int .i64) c) st
    | none => False
  | _, _ => False

def vcCall (E : Env) (st : St) (c : Call) (kv kp : SV → St → Prop) : Prop :=
  match c.callee with
  | .builtin .append => match c.args.toList, c.argTypes.toList with
    | [s, x], [t, t'] => if t' = t then
        match st.ev x with
        | .dat .str _ => False
        | sx => st.append E.toTy t (st.ev s) sx kv
      else match E.d t' with
        | .str => st.appStr E.toTy t t' (st.ev s) (st.ev x) kv
        | .int _ => st.appMk E.toTy t t' (st.ev s) (st.ev x) kv
        | _ => False
    | _, _ => False
  | .builtin .cap => match c.args.toList, c.argTypes.toList with
    | [x], [t] => st.capOf E.toTy t (st.ev x) kv
    | _, _ => False
  | .value (.func f) => match E.fns f with
    | some cs => cs (c.args.toList.map st.ev) st kv kp
    | none => False
  | .value x => match st.ev x with
    | .fn f cap => match E.fns f with
      | some cs => cs (c.args.toList.map st.ev ++ cap) st kv kp
      | none => False
    | .yld => match E.yld with
      | some h => h (c.args.toList.map st.ev) st kv kp
      | none => False
    | _ => False
  | _ => False

/-- A character of a text, and how many bytes it has. -/
def udec (l : List Int) (i : Nat) : Nat × Nat := Lib.decodeN (l.length - i) (l.getD i 0).toNat (l.getD (i + 1) 0).toNat (l.getD (i + 2) 0).toNat (l.getD (i + 3) 0).toNat

def St.range (E : Ty) (st : St) (t : Nat) (s : SV) (kv : SV → St → Prop) : Prop :=
  match E.d t, s with
  | .str, .dat .str l => kv (.ptr st.hp.length 0) { st with hp := st.hp ++ [some (.siter l 0)] }
  | _, _ => False

def St.next (st : St) (s : SV) (kv : SV → St → Prop) : Prop :=
  match s with
  | .ptr n 0 => match st.hp[n]? with
    | some (some (.siter l pos)) => (pos < l.length → kv (.tup [.cst (.bool true), .dat (.int .i64) (pos : Int), .dat (.int .i32) ((udec l pos).1 : Int)]) { st with hp := st.hp.set n (some (.siter l (pos + (udec l pos).2))) }) ∧
        (l.length ≤ pos → kv (.tup [.cst (.bool false)]) st)
    | _ => False
  | _ => False

/-- A 'defer' of a function without arguments. -/
def St.defr (E : Env) (st : St) (o : Oper) : Option St :=
  match o.op with
  | .defer c => if E.rnd then none else match c.callee, c.args.toList with
    | .value x, [] => match st.ev x with
      | .fn f cap => some { st with df := .fn f cap :: st.df }
      | _ => none
    | _, _ => none
  | _ => none

def opnds : Op → List Operand
  | .call c => c.args.toList ++ (match c.callee with | .value x => [x] | _ => [])
  | .box _ x => [x]
  | .build _ p => p.toList.map (·.2)
  | .buildSlice _ _ p => p.toList.map (·.2)
  | .convert _ _ x => [x]
  | .binOp _ _ x y _ => [x, y]
  | .panic x => [x]
  | .makeSlice _ l c => [l, c]
  | _ => []

/-- Values that stand under a condition: the condition is asked for, the values are taken. -/
def St.ungate : List Operand → St → List Prop × St
  | [], st => ([], st)
  | .tmp t :: l, st => match st.sl.lookup t with
    | some (.gd p s) => ((p = true) :: (ungate l { st with sl := (t, s) :: st.sl }).1, (ungate l { st with sl := (t, s) :: st.sl }).2)
    | _ => ungate l st
  | _ :: l, st => ungate l st

/-- A choice whose question is answered. -/
def St.picked (st : St) : Op → Option Operand
  | .pick (.tmp t) x y => match st.kn.lookup t with
    | some true => some x
    | some false => some y
    | none => none
  | _ => none

def vcOp' (E : Env) (st : St) (o : Oper) (kv kp : SV → St → Prop) : Prop :=
  match o.op with
    | .box t x => st.box E.toTy t (st.ev x) kv
    | .alloc t => st.alloc E.toTy t kv
    | .build t parts => st.build E.toTy t parts.toList kv
    | .buildSlice t n parts => st.buildSlice E.toTy t n parts.toList kv
    | .store t ad x => conj (st.g ad).1 (conj (st.g x).1 (st.store E.toTy t (st.g ad).2 (st.g x).2 kv))
    | .pick c x y => match st.ev c with
      | .dat .bool b => (b = true → conj (st.g x).1 (kv (st.g x).2 st)) ∧ (b = false → conj (st.g y).1 (kv (st.g y).2 st))
      | _ => False
    | .convert src dst x => if ownDst E.own o.dst then st.toRow E.toTy src dst (st.ev x) kv else st.toBytes E.toTy src dst (st.ev x) kv
    | .makeSlice t l c => st.make E.toTy t (st.ev l) (st.ev c) kv
    | .binOp op ty x y _ => st.eqNil E.toTy op ty (st.ev x) (st.ev y) kv
    | .panic x => match st.ev x with
      | .ifc t s => kp (.ifc t s) st
      | _ => False
    | .call c => vcCall E st c kv kp
    | .range t x => st.range E.toTy t (st.ev x) kv
    | .next x true => st.next (st.ev x) kv
    | _ => False

def vcOp (E : Env) (st : St) (o : Oper) (kv kp : SV → St → Prop) : Prop :=
  match st.picked o.op with
  | some x => conj (st.g x).1 (kv (st.g x).2 st)
  | none => match st.op1 E.toTy o with
    | some (obs, s) => conj obs (kv s st)
    | none => conj (st.ungate (opnds o.op)).1 (vcOp' E (st.ungate (opnds o.op)).2 o kv kp)

section
variable {E : Env} {gl : Gl} {B : Base} {ρ : Nat → Value} {st : St} {a : Act} {fs : List Act} {w : World} {kv kp : SV → St → Prop}

theorem StRel.grow {w' : World} (h : StRel B ρ st a fs w) (hg : w.grownBy w' none) : StRel B ρ st a fs w' := by
  have le : (cx B ρ st.hp w).le (cx B ρ st.hp w') := ⟨hg.size, fun b hb _ => hg.block b hb (by simp), fun _ _ h => h, Nat.le_refl _, fun _ _ => rfl, rfl⟩
  refine ⟨⟨h.h.kept.trans (S' := fun _ => False) ⟨hg.os, hg.tape, hg.output, hg.size, fun b hb _ => hg.block b hb (by simp)⟩ (fun _ _ h => h.elim),
    fun n o ho => (h.h.obj n o ho).le le (fun b hb => hg.block b (h.h.live_block ⟨o, ho⟩ hb) (by simp)), h.h.sep, h.h.own, h.h.fb⟩, h.s.le le, h.kn, h.k.le le, h.d.le le, h.g⟩

theorem toBytes_sound (hE : E.Ok gl) (h : StRel B ρ st a fs w) {src dst : Nat} {x : Operand} {o : Oper} (e : o.op = .convert src dst x) (hk : st.toBytes E.toTy src dst (st.ev x) kv) : Yield E.toTy B o a fs w kv := by
  have hs := hE.ty.d src
  have hd := hE.ty.d dst
  have hx := ev_rel h x
  unfold St.toBytes at hk
  split at hk
  · rename_i el l e1 e2 e3
    rw [e1] at hs
    rw [e2] at hd
    rw [e3] at hx
    split at hk
    · rename_i h8
      have he := hE.ty.d el
      rw [isU8_eq h8] at he
      obtain ⟨s, hs1, hs2, hs3⟩ := VRep_str.1 hx
      have hrun := run_bytes_of_string (P := E.P) w src dst el s hs hd he
      have hg : w.grownBy (w.drew.alloc (.cells (bytesRow s (grownCap w s.size 0 el)) el ((bytesRow s (grownCap w s.size 0 el)).size, (bytesRow s (grownCap w s.size 0 el)).size + 1))) none :=
        ⟨rfl, rfl, rfl, by simp, fun k hk _ => Below.heap_alloc w.drew _ k hk⟩
      have h2 := h.grow hg
      refine ⟨_, _, _, _, ρ, .slice (some ⟨w.heap.size, 0, none⟩) s.size (grownCap w s.size 0 el), ?_, .inl rfl, hk, h2, VRep_sl.2 ⟨some ⟨w.heap.size, 0, none⟩, grownCap w s.size 0 el, ?_, ?_, ?_, fun hne => ⟨_, rfl, by simp, ?_, fun i y hy => ?_⟩⟩⟩
      · unfold execOp
        rw [e]
        simp only [hs1, Sem.run_bind, hrun, Result.andThen_ok, Sem.run_pure]
      · rw [← hs2, bs_length]
      · rw [← hs2, bs_length]; exact grownCap_ge _ _ _ _
      · have := grownCap_le_maxLen w s.size 0 el (by simp only [maxLen]; omega)
        simpa [maxLen] using this
      · rintro (hF | ⟨m, hm, hb⟩)
        · have := (h.h.fb _ hF).1
          have := h.h.kept.size
          simp only at *
          omega
        · have := h.h.live_block hm hb
          simp only at *
          omega
      · rw [← hs2] at hy
        have hi : i < s.size := by
          have := (List.getElem?_eq_some_iff.1 hy).1
          rwa [bs_length] at this
        have hy2 : y = (s.data[i]'(by simpa using hi)).toNat := by
          have := (List.getElem?_eq_some_iff.1 hy).2
          simpa [bs] using this.symm
        refine ⟨[.int .u8 y], ⟨rfl, ?_⟩, fun j u hu => ?_⟩
        · have := (s.data[i]'(by simpa using hi)).toNat_lt
          rw [hy2]
          constructor <;> simp [IntKind.min, IntKind.max, IntKind.signed, IntKind.bits] <;> omega
        · cases j with
          | zero =>
            cases hu
            have hb := bytesRow_at s (grownCap w s.size 0 el) i (by simpa using hi)
            rw [addr_add]
            simp only [Kd.sz, Nat.mul_one, Nat.add_zero, Nat.zero_add]
            have hn : (w.drew.alloc (.cells (bytesRow s (grownCap w s.size 0 el)) el ((bytesRow s (grownCap w s.size 0 el)).size, (bytesRow s (grownCap w s.size 0 el)).size + 1))).heap[w.heap.size]? = _ := heap_alloc_new w.drew _
            unfold World.cell?
            simp only [hn]
            rw [hy2]
            simpa using hb
          | succ j => simp at hu
    · exact hk.elim
  · exact hk.elim

theorem toRow_sound (hE : E.Ok gl) (h : StRel B ρ st a fs w) {src dst : Nat} {x : Operand} {o : Oper} (e : o.op = .convert src dst x) (hk : st.toRow E.toTy src dst (st.ev x) kv) : Yield E.toTy B o a fs w kv := by
  have hs := hE.ty.d src
  have hd := hE.ty.d dst
  have hx := ev_rel h x
  unfold St.toRow at hk
  split at hk
  · rename_i el l e1 e2 e3
    rw [e1] at hs
    rw [e2] at hd
    rw [e3] at hx
    split at hk
    · rename_i h8
      have he := hE.ty.d el
      rw [isU8_eq h8] at he
      obtain ⟨s, hs1, hs2, hs3⟩ := VRep_str.1 hx
      have hrun := run_bytes_of_string (P := E.P) w src dst el s hs hd he
      have hcge := grownCap_ge w s.size 0 el
      have hcle := grownCap_le_maxLen w s.size 0 el (by simp only [maxLen]; omega)
      generalize grownCap w s.size 0 el = cap at hrun hcge hcle
      have hbz : (bytesRow s cap).size = cap := by
        have e : s.data.size = s.size := rfl
        simp only [bytesRow, Array.size_append, Array.size_map, Array.size_replicate, e]; omega
      have T : Turn B ρ (upd ρ st.hp.length (.slice (some ⟨w.heap.size, 0, none⟩) s.size cap)) st.hp (st.hp ++ [some (.row (el + BIG) (.int .u8) l)]) w
          (w.drew.alloc (.cells (bytesRow s cap) el ((bytesRow s cap).size, (bytesRow s cap).size + 1))) st.hp.length none :=
        Turn.new ⟨rfl, rfl, rfl, by simp, fun k hk _ => Below.heap_alloc w.drew _ k hk⟩ (fun b hb => by cases hb; exact Nat.le_refl _)
      refine ⟨_, _, _, _, _, _, ?_, .inl rfl, hk, h.turn T (fun ob hob => ?_), ⟨by simp, (upd_same _ _ _).symm, _, _, _, rfl⟩⟩
      · unfold execOp
        rw [e]
        simp only [hs1, Sem.run_bind, hrun, Result.andThen_ok, Sem.run_pure]
      · rw [getElem?_snoc] at hob
        cases hob
        rw [upd_same]
        have hn : (w.drew.alloc (.cells (bytesRow s cap) el ((bytesRow s cap).size, (bytesRow s cap).size + 1))).heap[w.heap.size]? = some (.cells (bytesRow s cap) el ((bytesRow s cap).size, (bytesRow s cap).size + 1)) := heap_alloc_new w.drew _
        have hll : l.length = s.size := by rw [← hs2, bs_length]
        refine ⟨(bytesRow s cap).toList.take (l.length * 1), .inr ⟨Nat.le_add_left _ _, ?_, w.heap.size, cap, bytesRow s cap, ((bytesRow s cap).size, (bytesRow s cap).size + 1), by rw [hll], ?_, Nat.le_refl _, by rw [hll]; exact hcge, hcle, by rw [hbz]; simp [Kd.sz], rfl⟩, fun i y hy => ?_⟩
        · simp only [Kd.sz, List.length_take, Array.length_toList, hbz]; omega
        · rw [Nat.add_sub_cancel]; exact hn
        · have hi : i < s.size := by
            have := (List.getElem?_eq_some_iff.1 hy).1
            omega
          rw [← hs2] at hy
          have hy2 : y = (s.data[i]'(by simpa using hi)).toNat := by
            have := (List.getElem?_eq_some_iff.1 hy).2
            simpa [bs] using this.symm
          have hb := bytesRow_at s cap i (by simpa using hi)
          have hseg : (((bytesRow s cap).toList.take (l.length * 1)).drop (i * 1)).take 1 = [.int .u8 y] := by
            apply List.ext_getElem?
            intro j
            cases j with
            | zero =>
              rw [List.getElem?_take_of_lt (by omega), List.getElem?_drop, List.getElem?_take_of_lt (by omega), hy2, Array.getElem?_toList, show i * 1 + 0 = i by omega, hb]
              rfl
            | succ j => simp [List.getElem?_take]
          simp only [Kd.sz]
          rw [hseg]
          refine ⟨rfl, ?_⟩
          have := (s.data[i]'(by simpa using hi)).toNat_lt
          rw [hy2]
          constructor <;> simp [IntKind.min, IntKind.max, IntKind.signed, IntKind.bits] <;> omega
    · exact hk.elim
  · exact hk.elim

theorem nil_any {P : Program} {t e : Nat} (hd : P.underlying t = some (.slice e)) (d : Nat) (A : Option Addr) (n c : Nat) : (Op.equalIn (d + 1) t (.slice A n c) (.slice none 0 0)).run P w = .ok A.isNone w := by
  cases A <;> simp [Op.equalIn, run_underlying hd]

theorem eqNil_sound (hE : E.Ok gl) (h : StRel B ρ st a fs w) {op : BinOp} {ty yt : Nat} {x y : Operand} {o : Oper} (e : o.op = .binOp op ty x y yt) (hk : st.eqNil E.toTy op ty (st.ev x) (st.ev y) kv) : Yield E.toTy B o a fs w kv := by
  have hd := hE.ty.d ty
  have hx := ev_rel h x
  have hy := ev_rel h y
  unfold St.eqNil at hk
  split at hk
  · rename_i el c e1 e2
    rw [e1] at hd
    rw [e2] at hy
    have hd : E.P.underlying ty = some (.slice el) := hd
    have hy : a.eval y = c := hy
    split at hk
    · rename_i hn
      rw [nilSlice_eq hn] at hy
      split at hk
      · rename_i k xs hl
        obtain ⟨A, cc, hv, h1, _, h2⟩ := list_rel h hx hl
        have hnil : A.isNone = true → xs = [] := by
          intro hA
          cases xs with
          | nil => rfl
          | cons u l => obtain ⟨ad, hA', _⟩ := h2 (by simp); rw [hA'] at hA; cases hA
        have q : (Op.equal ty (.slice A xs.length cc) (.slice none 0 0)).run E.P w = .ok A.isNone w := nil_any hd 9999 A _ _
        split at hk
        · refine ⟨_, w, _, st, ρ, .bool A.isNone, ?_, .inl rfl, hk A.isNone hnil, h, VRep_bool.2 rfl⟩
          unfold execOp
          rw [e]
          simp only [hv, hy, eqGuard, binOp, Sem.run_bind, Sem.run_pure]
          simp [q]
        · refine ⟨_, w, _, st, ρ, .bool (!A.isNone), ?_, .inl rfl, hk (!A.isNone) (by simpa using hnil), h, VRep_bool.2 rfl⟩
          unfold execOp
          rw [e]
          simp only [hv, hy, eqGuard, binOp, Sem.run_bind, Sem.run_pure]
          simp [q]
        · exact hk.elim
      · exact hk.elim
    · exact hk.elim
  · exact hk.elim

theorem capOf_sound (hE : E.Ok gl) (h : StRel B ρ st a fs w) {t : Nat} {x : Operand} {o : Oper} {c : Call} (e : o.op = .call c) (hc : c.callee = .builtin .cap) (ha : c.args = #[x]) (hta : c.argTypes = #[t])
    (hk : st.capOf E.toTy t (st.ev x) kv) : Yield E.toTy B o a fs w kv := by
  have hd := hE.ty.d t
  have hx := ev_rel h x
  have go : ∀ (e' : Nat) (A : Option Addr) (n cc : Nat), E.P.underlying t = some (.slice e') → a.eval x = .slice A n cc → (execOp a.eval o).run E.P w = .ok (.value (goInt cc)) w := by
    intro e' A n cc hd hx
    unfold execOp
    rw [e]
    simp only [resolve, hc, ha, hta, Sem.run_bind, Sem.run_pure, Result.andThen_ok, invoke, builtin, List.map_toArray, List.map_cons, List.map_nil, hx]
    simp [Builtin.cap_, run_underlying hd]
  unfold St.capOf at hk
  split at hk
  · rename_i e' c0 e1 e2
    rw [e1] at hd
    rw [e2] at hx
    split at hk
    · rename_i hn
      have hx : a.eval x = c0 := hx
      rw [nilSlice_eq hn] at hx
      exact ⟨_, w, _, st, ρ, _, go e' _ _ _ hd hx, .inl rfl, hk, h, VRep_int.2 ⟨rfl, by constructor <;> decide⟩⟩
    · exact hk.elim
  · rename_i e' s e1 hne
    rw [e1] at hd
    split at hk
    · rename_i k xs hl
      obtain ⟨A, cc, hv, h1, h2, _⟩ := list_rel h hx hl
      exact ⟨_, w, _, st, ρ, _, go _ _ _ _ hd hv, .inl rfl, hk cc (by omega) (by omega), h, VRep_int.2 ⟨rfl, by constructor <;> simp [IntKind.min, IntKind.max, IntKind.signed, IntKind.bits] <;> omega⟩⟩
    · exact hk.elim
  · exact hk.elim

theorem bs_get (s : ByteArray) (i : Nat) : (s.get! i).toNat = ((bs s).getD i 0).toNat := by
  by_cases h : i < s.size
  · rw [bs_getD s i h]
    rw [show s.get! i = s[i]'h by
      obtain ⟨d⟩ := s
      have h' : i < d.size := h
      show d[i]! = d[i]
      rw [getElem!_pos d i h']]
    rfl
  · have h' : ¬ i < s.data.size := h
    rw [show s.get! i = default by
      obtain ⟨d⟩ := s
      show d[i]! = default
      rw [getElem!_neg d i h']]
    rw [List.getD_eq_getElem?_getD, List.getElem?_eq_none (by rw [bs_length]; omega)]
    rfl

theorem udec_eq (s : ByteArray) (i : Nat) : Utf8.decode s i = udec (bs s) i := by
  rw [Lib.decode_at, udec, bs_length, bs_get, bs_get, bs_get, bs_get]

set_option maxRecDepth 100000 in
theorem udec_lt (l : List Int) (i : Nat) (h : ∀ j, (l.getD j 0).toNat < 256) : (udec l i).1 ≤ 2097151 := by
  unfold udec Lib.decodeN
  have h0 := h i
  have h1 := h (i + 1)
  have h2 := h (i + 2)
  have h3 := h (i + 3)
  simp only [ge_iff_le]
  repeat' split
  all_goals (simp only []; omega)

theorem range_sound (hE : E.Ok gl) (h : StRel B ρ st a fs w) {t : Nat} {x : Operand} {o : Oper} (e : o.op = .range t x) (hk : st.range E.toTy t (st.ev x) kv) : Yield E.toTy B o a fs w kv := by
  have hd := hE.ty.d t
  have hx := ev_rel h x
  unfold St.range at hk
  split at hk
  · rename_i l e1 e2
    rw [e1] at hd
    rw [e2] at hx
    obtain ⟨s, hs, hl, hsz⟩ := VRep_str.1 hx
    have hd : E.P.underlying t = some .string := hd
    have T : Turn B ρ (upd ρ st.hp.length (.pointer (some ⟨w.heap.size, 0, none⟩))) st.hp (st.hp ++ [some (.siter l 0)]) w (w.alloc (.stringIter s 0)) st.hp.length none :=
      Turn.new (World.grownBy_alloc w _ none) (fun b hb => by cases hb; exact Nat.le_refl _)
    refine ⟨_, _, _, _, _, _, ?_, .inl rfl, hk, h.turn T (fun ob hob => ?_), ⟨by simp, w.heap.size, upd_same _ _ _, rfl⟩⟩
    · unfold execOp
      rw [e]
      simp [hs, Instr.range, run_underlying hd, run_newObj_alloc]
    · rw [getElem?_snoc] at hob
      cases hob
      rw [upd_same]
      exact ⟨_, s, rfl, heap_alloc_new w _, hl, hsz⟩
  · exact hk.elim

theorem next_sound (h : StRel B ρ st a fs w) {x : Operand} {o : Oper} (e : o.op = .next x true) (hk : st.next (st.ev x) kv) : Yield E.toTy B o a fs w kv := by
  have hx := ev_rel h x
  unfold St.next at hk
  split at hk
  · rename_i n e2
    rw [e2] at hx
    obtain ⟨hn, b, hb, hxv⟩ := hx
    split at hk
    · rename_i l pos ho
      obtain ⟨b', s, hb', hh, hl, hsz⟩ := h.h.obj n _ ho
      simp only at hb
      rw [hb] at hb'
      cases hb'
      have hlen : l.length = s.size := by rw [← hl, bs_length]
      have hget : (getObj b).run E.P w = .ok (.stringIter s pos) w := by simp [getObj, Sem.run, hh]
      by_cases hp : pos < l.length
      · have hp' : pos < s.size := by omega
        have T : Turn B ρ ρ st.hp (st.hp.set n (some (.siter l (pos + (udec l pos).2)))) w (w.putObj b (.stringIter s (pos + (udec l pos).2))) n (some b) :=
          Turn.at ho ⟨rfl, rfl, rfl, by simp, fun k hk hne => World.putObj_heap_other (fun e => hne (by rw [e]))⟩ (fun c hc => by cases hc; rw [hb]; rfl)
        have hu : Utf8.decode s pos = udec l pos := by rw [udec_eq, hl]
        refine ⟨_, _, _, _, ρ, .tuple #[.bool true, goInt pos, .int .i32 (udec l pos).1], ?_, .inl rfl, hk.1 hp, h.turn T (fun ob hob => ?_), ?_⟩
        · unfold execOp
          rw [e]
          have hset : (setObj b (.stringIter s (pos + (Utf8.decode s pos).2))).run E.P w = .ok () (w.putObj b (.stringIter s (pos + (Utf8.decode s pos).2))) := by simp [setObj, Sem.run, hh, World.putObj]
          simp only [hxv, Instr.next, Sem.run_bind, hget, Result.andThen_ok, hp', if_true, hset, Sem.run_pure]
          rw [hu]
        · have hlt : n < st.hp.length := (List.getElem?_eq_some_iff.1 ho).1
          rw [List.getElem?_set_self hlt] at hob
          cases hob
          exact ⟨b, s, hb, World.putObj_heap_same (Array.getElem?_eq_some_iff.1 hh).1, hl, hsz⟩
        · refine ⟨[_, _, _], rfl, _, _, rfl, rfl, _, _, rfl, VRep_int.2 ⟨rfl, ?_⟩, _, _, rfl, VRep_int.2 ⟨rfl, ?_⟩, rfl⟩
          · constructor <;> simp [IntKind.min, IntKind.max, IntKind.signed, IntKind.bits] <;> omega
          · have := udec_lt l pos (fun j => by
              by_cases hj : j < l.length
              · have := bs_range s (l.getD j 0) (by rw [hl, List.getD_eq_getElem?_getD, List.getElem?_eq_getElem hj]; exact List.getElem_mem hj)
                omega
              · rw [List.getD_eq_getElem?_getD, List.getElem?_eq_none (by omega)]; simp)
            constructor <;> simp [IntKind.min, IntKind.max, IntKind.signed, IntKind.bits] <;> omega
      · have hp' : ¬ pos < s.size := by omega
        refine ⟨_, _, _, _, ρ, .tuple #[.bool false], ?_, .inl rfl, hk.2 (by omega), h, ⟨[_], rfl, _, _, rfl, rfl, rfl⟩⟩
        unfold execOp
        rw [e]
        simp only [hxv, Instr.next, Sem.run_bind, hget, Result.andThen_ok, hp', if_false, Sem.run_pure]
    · exact hk.elim
  · exact hk.elim

/-! ### What a logic of single operations must give -/
abbrev fen (r : Option Nat) : Fence := { Fence.wide with round := r }

structure Lg (P : Program) (rnd dfr : Prop) where
  W : Oper → Act → World → (Act → World → Prop) → (Exit → Act → World → Prop) → Prop
  val : ∀ {o : Oper} {a : Act} {w : World} {next : Act → World → Prop} {Q : Exit → Act → World → Prop} {v : Value} {w' : World}, (∀ c, o.op ≠ .defer c) → (execOp a.eval o).run P w = .ok (.value v) w' → next (a.put o.dst v) w' → W o a w next Q
  skip : ∀ {o : Oper} {a : Act} {w : World} {next : Act → World → Prop} {Q : Exit → Act → World → Prop} {w' : World}, (∀ c, o.op ≠ .defer c) → (execOp a.eval o).run P w = .ok .skip w' → next (a.put o.dst undef) w' → W o a w next Q
  enter : ∀ {o : Oper} {a : Act} {w : World} {next : Act → World → Prop} {Q : Exit → Act → World → Prop} {f : FuncId} {args : Array Value} {w' : World}, (∀ c, o.op ≠ .defer c) → (execOp a.eval o).run P w = .ok (.enter f args) w' →
    Calls P f args w' (fun e w'' => match e with
      | .returned v => next (a.put o.dst v) w''
      | .panicked ch => Q (.panic ch) a w''
      | .outgrown => False) → W o a w next Q
  panic : ∀ {o : Oper} {a : Act} {w : World} {next : Act → World → Prop} {Q : Exit → Act → World → Prop} {v : Value} {w' : World}, (∀ c, o.op ≠ .defer c) → (execOp a.eval o).run P w = .halt (.panic v) w' → Q (.panic [{ v := v, recovered := false }]) a w' → W o a w next Q
  defer : ∀ {o : Oper} {a : Act} {w : World} {next : Act → World → Prop} {Q : Exit → Act → World → Prop} {d : Deferred} {w' : World}, dfr → (execOp a.eval o).run P w = .ok (.defer d) w' → next ({ a with defers := d :: a.defers }.put o.dst undef) w' → W o a w next Q
  round : ∀ {o : Oper} {a : Act} {w : World} {next : Act → World → Prop} {Q : Exit → Act → World → Prop} {l : Nat} {f : FuncId} {tmps : Array Value} {assign body : Code} {w' : World}, rnd → (∀ c, o.op ≠ .defer c) → (execOp a.eval o).run P w = .ok (.round l f tmps assign body) w' →
    RoundIn Fence.wide 0 P l f tmps assign body w' (fun e w'' => match e with
      | .returned v => next (a.put o.dst v) w''
      | .panicked ch => Q (.panic ch) a w''
      | .outgrown => False) → W o a w next Q

def Lg.plain (P : Program) : Lg P False False where
  W o a w next Q := o.wp P a w next Q
  val _ h k := by unfold Oper.wp; rw [h]; exact k
  skip _ h k := by unfold Oper.wp; rw [h]; exact k
  enter _ h k := by
    unfold Oper.wp; rw [h, Oper.upon_enter]
    refine k.mono fun e w' hw => ?_
    cases e <;> first | exact hw | exact hw.elim
  panic _ h k := by unfold Oper.wp; rw [h, Oper.upon_panic]; exact k
  defer h := h.elim
  round h := h.elim

theorem semAt_eq {r : Option Nat} {o : Oper} {ev : Operand → Value} (h : ∀ c, o.op ≠ .defer c) : o.semAt r ev = execOp ev o := by
  cases r with
  | none => rfl
  | some l => exact Oper.semAt_some l ev o h

def Lg.inn (P : Program) (r : Option Nat) : Lg P True (r = none) where
  W o a w next Q := o.wpIn (fen r) 0 P a w next Q
  val hn h k := ⟨fun _ _ => trivial, by rw [semAt_eq hn, h]; exact k⟩
  skip hn h k := ⟨fun _ _ => trivial, by rw [semAt_eq hn, h]; exact k⟩
  enter hn h k := ⟨fun _ _ => trivial, by
    rw [semAt_eq hn, h, Oper.uponIn_enter]
    refine ⟨fun h => (by cases h), ?_⟩
    have : CallsIn Fence.wide 0 P _ _ _ _ := callsIn_wide.2 (k.mono (R' := fun e w'' => _) fun e w' hw => hw)
    have h2 : CallsIn (fen r) 0 P _ _ _ _ := this
    refine CallsIn.mono h2 fun e w' hw => ?_
    cases e <;> first | exact hw | exact hw.elim⟩
  panic hn h k := ⟨fun _ _ => trivial, by rw [semAt_eq hn, h, Oper.uponIn_panic]; exact k⟩
  defer hd h k := ⟨fun _ _ => trivial, by subst hd; show Oper.uponIn _ _ _ _ _ _ _ ((execOp _ _).run P _); rw [h, Oper.uponIn_defer]; exact k⟩
  round _ hn h k := ⟨fun _ _ => trivial, by
    rw [semAt_eq hn, h, Oper.uponIn_round]
    refine ⟨fun h => (by cases h), ?_⟩
    have h2 : RoundIn (fen r) 0 P _ _ _ _ _ _ _ := k
    refine h2.mono fun e w' hw => ?_
    cases e <;> first | exact hw | exact hw.elim⟩

variable {rnd dfr : Prop} {L : Lg E.P rnd dfr}

theorem wp_of_yield {next : Act → World → Prop} {Q : Exit → Act → World → Prop} {o : Oper} (hn : ∀ c, o.op ≠ .defer c) (hy : Yield E.toTy B o a fs w kv)
    (hv : ∀ s st' ρ' v w', kv s st' → StRel B ρ' st' a fs w' → s.rel (cx B ρ' st'.hp w') v → next (a.put o.dst v) w') : L.W o a w next Q := by
  obtain ⟨n, w', s, st', ρ', v, h1, h2, h3, h4, h5⟩ := hy
  rcases h2 with rfl | ⟨rfl, rfl⟩
  · exact L.val hn h1 (hv _ _ _ _ _ h3 h4 h5)
  · exact L.skip hn h1 (hv _ _ _ _ _ h3 h4 h5)

theorem vcCall_sound (hE : E.Ok gl) (hB : B.gl = gl) (hy : ∀ hd, E.yld = some hd → rnd ∧ YieldOk E.P B fs hd) (h : StRel B ρ st a fs w) {o : Oper} {c : Call} (e : o.op = .call c) (hk : vcCall E st c kv kp) {next : Act → World → Prop} {Q : Exit → Act → World → Prop}
    (hv : ∀ s st' ρ' v w', kv s st' → StRel B ρ' st' a fs w' → s.rel (cx B ρ' st'.hp w') v → next (a.put o.dst v) w')
    (hp : ∀ s st' ρ' v w', kp s st' → StRel B ρ' st' a fs w' → s.rel (cx B ρ' st'.hp w') v → Q (.panic [{ v := v, recovered := false }]) a w') : L.W o a w next Q := by
  have hn : ∀ c', o.op ≠ .defer c' := fun c' h => by rw [e] at h; cases h
  have enter : ∀ (f : Nat) (cs : CallSem) (args : List SV) (vs : List Value), E.fns f = some cs → cs args st kv kp → SV.rels (cx B ρ st.hp w) args vs →
      (execOp a.eval o).run E.P w = (callFunc f vs.toArray).run E.P w → L.W o a w next Q := by
    intro f cs args vs hf hcs hr hrun
    rcases hE.fn f cs hf args st kv kp B ρ a fs w vs hB hcs h hr with ⟨h1, h2⟩ | ⟨v, h1, s, st', ρ', h2, h3, h4⟩
    · refine L.enter hn (hrun.trans h1) (h2.mono fun en w' hw => ?_)
      cases en with
      | returned v => obtain ⟨s, st', ρ', h1, h2, h3⟩ := hw; exact hv _ _ _ _ _ h1 h2 h3
      | panicked ch => obtain ⟨v, s, st', ρ', rfl, h1, h2, h3⟩ := hw; exact hp _ _ _ _ _ h1 h2 h3
      | outgrown => exact hw.elim
    · exact L.val hn (hrun.trans h1) (hv _ _ _ _ _ h2 h3 h4)
  unfold vcCall at hk
  split at hk
  · rename_i hc
    split at hk
    · rename_i s x t t' e1 e2
      split at hk
      · rename_i htt
        subst htt
        have e1 : c.args = #[s, x] := by apply Array.ext'; simpa using e1
        have e2 : c.argTypes = #[t', t'] := by apply Array.ext'; simpa using e2
        split at hk
        · exact hk.elim
        · rename_i hstr
          exact wp_of_yield hn (append_sound hE.ty h e hc e1 e2 (fun l hl => hstr l hl) hk) hv
      · have e1 : c.args = #[s, x] := by apply Array.ext'; simpa using e1
        have e2 : c.argTypes = #[t, t'] := by apply Array.ext'; simpa using e2
        split at hk
        · exact wp_of_yield hn (appStr_sound hE.ty h e hc e1 e2 hk) hv
        · exact wp_of_yield hn (appMk_sound hE.ty h e hc e1 e2 hk) hv
        · exact hk.elim
    · exact hk.elim
  · rename_i hc
    split at hk
    · rename_i x t e1 e2
      have e1 : c.args = #[x] := by apply Array.ext'; simpa using e1
      have e2 : c.argTypes = #[t] := by apply Array.ext'; simpa using e2
      exact wp_of_yield hn (capOf_sound hE h e hc e1 e2 hk) hv
    · exact hk.elim
  · rename_i f hc
    split at hk
    · rename_i cs hf
      refine enter f cs _ (c.args.toList.map a.eval) hf hk (evs_rel h _) ?_
      unfold execOp
      rw [e]
      simp only [resolve, hc, Act.eval, Deferred.ofValue, Sem.run_bind, Sem.run_pure, Result.andThen_ok, invoke]
      rw [show (#[] ++ c.args.map a.eval ++ #[]) = c.args.map a.eval by simp]
      rw [← List.map_toArray, Array.toArray_toList]
    · exact hk.elim
  · rename_i x hnf hc
    split at hk
    · rename_i f cap hx
      have hxr := ev_rel h x
      rw [hx] at hxr
      obtain ⟨cvs, hxe, hcr⟩ := hxr
      split at hk
      · rename_i cs hf
        refine enter f cs _ (c.args.toList.map a.eval ++ cvs) hf hk (rels_append (evs_rel h _) hcr) ?_
        unfold execOp
        rw [e]
        simp only [resolve, hc, hxe, Deferred.ofValue, Sem.run_bind, Sem.run_pure, Result.andThen_ok, invoke]
        rw [show (#[] ++ c.args.map a.eval ++ cvs.toArray) = (c.args.toList.map a.eval ++ cvs).toArray by
          apply Array.ext'
          simp]
      · exact hk.elim
    · rename_i hx
      have hxr := ev_rel h x
      rw [hx] at hxr
      have hxr : a.eval x = .func (.yield B.lp) #[] #[] := hxr
      split at hk
      · rename_i hd hh
        obtain ⟨hr, hyo⟩ := hy hd hh
        obtain ⟨fn, tmps, assign, body, h1, h2⟩ := hyo _ _ _ _ _ a w _ hk h (evs_rel h _)
        refine L.round hr hn (w' := w) (l := B.lp) (f := fn) (tmps := tmps) (assign := assign) (body := body) ?_ (h2.mono fun en w' hw => ?_)
        · unfold execOp
          rw [e]
          simp only [resolve, hc, hxr, Deferred.ofValue, Sem.run_bind, Sem.run_pure, Result.andThen_ok, invoke]
          rw [← h1, show (#[] ++ c.args.map a.eval) = (c.args.toList.map a.eval).toArray by
            apply Array.ext'
            simp]
        · cases en with
          | returned v => obtain ⟨s, st', ρ', h1, h2, h3⟩ := hw; exact hv _ _ _ _ _ h1 h2 h3
          | panicked ch => obtain ⟨v, s, st', ρ', rfl, h1, h2, h3⟩ := hw; exact hp _ _ _ _ _ h1 h2 h3
          | outgrown => exact hw.elim
      · exact hk.elim
    · exact hk.elim
  · exact hk.elim

theorem lookup_mem {t : Nat} {b : Bool} : ∀ {l : List (Nat × Bool)}, l.lookup t = some b → (t, b) ∈ l
  | [], h => by cases h
  | (i, c) :: l, h => by
    by_cases e : t = i
    · subst e
      simp [List.lookup] at h
      subst h
      exact List.mem_cons_self
    · have : (t == i) = false := by simp [e]
      simp only [List.lookup, this] at h
      exact List.mem_cons_of_mem _ (lookup_mem h)

theorem ungate_rel : ∀ (l : List Operand) {st : St}, StRel B ρ st a fs w → (∀ p ∈ (st.ungate l).1, p) → StRel B ρ (st.ungate l).2 a fs w
  | [], st, h, _ => h
  | .const _ :: l, st, h, hp => ungate_rel l h hp
  | .func _ :: l, st, h, hp => ungate_rel l h hp
  | .global _ :: l, st, h, hp => ungate_rel l h hp
  | .tmp t :: l, st, h, hp => by
    simp only [St.ungate] at hp ⊢
    split at hp
    · rename_i p s e
      refine ungate_rel l (st := { st with sl := (t, s) :: st.sl }) ⟨h.h, ⟨h.s.1, fun i s' hs => ?_⟩, h.kn, h.k, h.d, h.g⟩ (fun q hq => hp q (List.mem_cons_of_mem _ hq))
      simp only at hs
      rw [lookup_cons] at hs
      split at hs
      · rename_i ei
        cases hs
        subst ei
        obtain ⟨h1, h2⟩ := h.s.2 i _ e
        exact ⟨h1, h2.1 (hp _ List.mem_cons_self)⟩
      · exact h.s.2 i s' hs
    · exact ungate_rel l h hp

theorem vcOp'_sound (hE : E.Ok gl) (hB : B.gl = gl) (hy : ∀ hd, E.yld = some hd → rnd ∧ YieldOk E.P B fs hd) (h : StRel B ρ st a fs w) {o : Oper} (hk : vcOp' E st o kv kp) {next : Act → World → Prop} {Q : Exit → Act → World → Prop}
    (hv : ∀ s st' ρ' v w', kv s st' → StRel B ρ' st' a fs w' → s.rel (cx B ρ' st'.hp w') v → next (a.put o.dst v) w')
    (hp : ∀ s st' ρ' v w', kp s st' → StRel B ρ' st' a fs w' → s.rel (cx B ρ' st'.hp w') v → Q (.panic [{ v := v, recovered := false }]) a w') : L.W o a w next Q := by
  unfold vcOp' at hk
  split at hk
  · rename_i t x e; exact wp_of_yield (fun c h => by rw [e] at h; cases h) (box_sound h e hk) hv
  · rename_i t e; exact wp_of_yield (fun c h => by rw [e] at h; cases h) (alloc_sound hE.ty h e hk) hv
  · rename_i t parts e; exact wp_of_yield (fun c h => by rw [e] at h; cases h) (build_sound hE.ty h e hk) hv
  · rename_i t n parts e; exact wp_of_yield (fun c h => by rw [e] at h; cases h) (buildSlice_sound hE.ty h e hk) hv
  · rename_i t ad x e
    obtain ⟨h2, h3⟩ := conj_all hk
    obtain ⟨h4, h5⟩ := conj_all h3
    exact wp_of_yield (fun c h => by rw [e] at h; cases h) (store_sound hE.ty h e (g_rel h ad h2) (g_rel h x h4) h5) hv
  · rename_i c x y e
    split at hk
    · rename_i b hb
      have hc := ev_rel h c
      rw [hb] at hc
      have hc := VRep_bool.1 hc
      have hrun : (execOp a.eval o).run E.P w = .ok (.value (if b then a.eval x else a.eval y)) w := by
        unfold execOp
        rw [e]
        simp only [hc]
        rfl
      refine L.val (fun c h => by rw [e] at h; cases h) hrun ?_
      cases b with
      | true =>
        obtain ⟨h1, h2⟩ := conj_all (hk.1 rfl)
        exact hv _ _ _ _ _ h2 h (g_rel h x h1)
      | false =>
        obtain ⟨h1, h2⟩ := conj_all (hk.2 rfl)
        exact hv _ _ _ _ _ h2 h (g_rel h y h1)
    · exact hk.elim
  · rename_i src dst x e
    split at hk
    · exact wp_of_yield (fun c h => by rw [e] at h; cases h) (toRow_sound hE h e hk) hv
    · exact wp_of_yield (fun c h => by rw [e] at h; cases h) (toBytes_sound hE h e hk) hv
  · rename_i t l c e; exact wp_of_yield (fun c h => by rw [e] at h; cases h) (make_sound hE.ty h e hk) hv
  · rename_i op ty x y yt e; exact wp_of_yield (fun c h => by rw [e] at h; cases h) (eqNil_sound hE h e hk) hv
  · rename_i x e
    split at hk
    · rename_i t s hx
      have hxr := ev_rel h x
      rw [hx] at hxr
      have hxr' := hxr
      obtain ⟨u, hu, _⟩ := hxr
      have hrun : (execOp a.eval o).run E.P w = .halt (.panic (a.eval x)) w := by
        unfold execOp
        rw [e]
        dsimp only
        rw [hu]
        rfl
      exact L.panic (fun c h => by rw [e] at h; cases h) hrun (hp _ _ _ _ _ hk h hxr')
    · exact hk.elim
  · rename_i c e; exact vcCall_sound hE hB hy h e hk hv hp
  · rename_i t x e; exact wp_of_yield (fun c h => by rw [e] at h; cases h) (range_sound hE h e hk) hv
  · rename_i x e; exact wp_of_yield (fun c h => by rw [e] at h; cases h) (next_sound h e hk) hv
  · exact hk.elim

theorem op1_nd {E : Ty} {o : Oper} {r : List Prop × SV} (h : st.op1 E o = some r) : ∀ c, o.op ≠ .defer c := by
  intro c e
  unfold St.op1 at h
  rw [e] at h
  cases h

theorem picked_nd {o : Op} {r : Operand} (h : st.picked o = some r) : ∀ c, o ≠ .defer c := by
  intro c e
  rw [e] at h
  cases h

theorem vcOp_sound (hE : E.Ok gl) (hB : B.gl = gl) (hy : ∀ hd, E.yld = some hd → rnd ∧ YieldOk E.P B fs hd) (h : StRel B ρ st a fs w) {o : Oper} (hk : vcOp E st o kv kp) {next : Act → World → Prop} {Q : Exit → Act → World → Prop}
    (hv : ∀ s st' ρ' v w', kv s st' → StRel B ρ' st' a fs w' → s.rel (cx B ρ' st'.hp w') v → next (a.put o.dst v) w')
    (hp : ∀ s st' ρ' v w', kp s st' → StRel B ρ' st' a fs w' → s.rel (cx B ρ' st'.hp w') v → Q (.panic [{ v := v, recovered := false }]) a w') : L.W o a w next Q := by
  unfold vcOp at hk
  split at hk
  · rename_i x e
    obtain ⟨h1, h2⟩ := conj_all hk
    have hrun : (execOp a.eval o).run E.P w = .ok (.value (a.eval x)) w := by
      unfold St.picked at e
      split at e
      · rename_i t x' y' eo
        split at e
        · rename_i ek
          cases e
          have := (h.kn t true (lookup_mem ek)).2
          unfold execOp
          rw [eo]
          simp only [Act.eval, this]
          rfl
        · rename_i ek
          cases e
          have := (h.kn t false (lookup_mem ek)).2
          unfold execOp
          rw [eo]
          simp only [Act.eval, this]
          rfl
        · cases e
      · cases e
    exact L.val (picked_nd e) hrun (hv _ _ _ _ _ h2 h (g_rel h x h1))
  · split at hk
    · rename_i obs s h1
      obtain ⟨h2, h3⟩ := conj_all hk
      obtain ⟨v, h4, h5⟩ := op1_sound hE.ty h h1 h2
      exact L.val (op1_nd h1) h4 (hv _ _ _ _ _ h3 h h5)
    · obtain ⟨h2, h3⟩ := conj_all hk
      exact vcOp'_sound hE hB hy (ungate_rel _ h h2) h3 hv hp
end
end Go.Vc
