/- Texts of a verified walk, led together: Mk, Step, Free, Code, Loop. -/
import Derived.Test.YtcaekpbmmbfeiaaDoorZV02
import Derived.Laws.Append
import Derived.StillTail
import Derived.Scope
import Derived.WalkSmall
import Derived.RangeFuncRecord
import Derived.RangeFuncCalls
import Derived.RecoverIn
import Derived.Lib.DecodeN
set_option linter.unusedVariables false
set_option linter.unusedSimpArgs false
section
/- The append of a make to nil. -/
namespace Go.Vc
open Go.RowKit

theorem run_append_zeros_nil {P : Program} (w : World) (t u ty e : TypeId) (ku : IntKind) (i : TypeInfo) (z : Value) (ht : P.underlying t = some (.slice e)) (hu : P.underlying u = some (.int ku)) (hi : P.info? e = some i) (hz : i.zero = some z)
    (k : IntKind) (n : Int) (h0 : 0 < n) (hsz : 0 < i.size) (hn : n ≤ 1000000000) (hb : i.bytes ≤ 1000) :
    ∃ c, n.toNat ≤ c ∧ c ≤ 9223372036854775807 ∧ (Builtin.append_ #[t, u] ty #[.slice none 0 0, .int k n]).run P w =
      .ok (.slice (some ⟨w.heap.size, 0, none⟩) n.toNat c) (w.drew.alloc (.cells (Builtin.zeroCells z.cells n.toNat ++ Builtin.zeroCells z.cells (c - n.toNat)) e)) := by
  refine ⟨grownCap w n.toNat 0 e, grownCap_ge _ _ _ _, ?_, ?_⟩
  · have := grownCap_le_maxLen w n.toNat 0 e (by simp only [maxLen]; omega)
    simpa [maxLen] using this
  · have w0 : IntKind.i64.wrap n = n := by rw [IntKind.wrap_i64]; omega
    have h1 : ¬ n < 0 := by omega
    have h2 : ¬ (281474976710656 < n * (i.bytes : Int)) := by
      have : n * (i.bytes : Int) ≤ 1000000000 * 1000 := Int.mul_le_mul hn (by omega) (by omega) (by omega)
      omega
    have h3 : ¬ n.toNat * i.size = 0 := by
      have : 0 < n.toNat * i.size := Nat.mul_pos (by omega) hsz
      omega
    have h4 : ¬ n.toNat ≤ 0 := by omega
    have h5 : ¬ (9223372036854775807 < (n.toNat : Int)) := by omega
    simp [Builtin.append_, run_underlying ht, run_underlying hu, sizeOf, typeInfo, zeroValue, hi, hz, asInt, asIntOf, w0, h1, h2, h3, h4, h5, Question.forced, newRow, grownCap]
    have h6 : ¬ n ≤ 0 := by omega
    have h7 : ¬ (9223372036854775807 < max n 0) := by omega
    have h8 : ¬ (281474976710656 < Builtin.nextslicecap n.toNat 0 * i.bytes) := by
      have : n.toNat * i.bytes ≤ 1000000000 * 1000 := Nat.mul_le_mul (by omega) hb
      have := growslice_fits (need := n.toNat) (old := 0) (bytes := i.bytes) (by omega) (by omega)
      omega
    rw [if_neg h6, if_neg h7, if_neg h8]
    simp [Builtin.firstCells, Result.andThen]

/-- So many zeros behind nothing. -/
def St.appMk (E : Ty) (st : St) (t t' : Nat) (s x : SV) (kv : SV → St → Prop) : Prop :=
  match E.d t, E.d t', s, x with
  | .sl e, .int _, .cst c, .dat (.int _) n => match E.k e with
    | some k => if nilSlice c ∧ 0 < k.sz ∧ E.bytes e ≤ 1000 then
        0 < n ∧ n ≤ 1000000000 ∧ kv (.own st.hp.length) { st with hp := st.hp ++ [some (.row e k (List.replicate n.toNat k.dft))] }
      else False
    | none => False
  | _, _, _, _ => False

theorem zeros_seg {z : Array Value} {sz i n m : Nat} (hz : z.size = sz) (hi : i < n) : ((Builtin.zeroCells z n ++ Builtin.zeroCells z m).toList.drop (i * sz)).take sz = z.toList := by
  have h1 : (i + 1) * sz ≤ n * z.size := by rw [hz]; exact Nat.mul_le_mul_right _ hi
  have h2 := made_seg hz h1
  have e : Builtin.zeroCells z n = madeCells z (n * z.size) := rfl
  rw [Array.toList_append, e]
  have hl : (madeCells z (n * z.size)).toList.length = n * z.size := by rw [Array.length_toList, size_madeCells]
  rw [List.drop_append_of_le_length (by rw [hl]; rw [Nat.add_mul] at h1; omega), List.take_append_of_le_length (by rw [List.length_drop, hl]; rw [Nat.add_mul] at h1; omega)]
  exact h2

section
variable {E : Ty} {B : Base} {ρ : Nat → Value} {st : St} {a : Act} {fs : List Act} {w : World} {kv : SV → St → Prop}

theorem appMk_sound (hE : E.Ok) (h : StRel B ρ st a fs w) {t t' : Nat} {s x : Operand} {o : Oper} {c : Call} (e : o.op = .call c) (hc : c.callee = .builtin .append) (ha : c.args = #[s, x]) (hta : c.argTypes = #[t, t'])
    (hk : st.appMk E t t' (st.ev s) (st.ev x) kv) : Yield E B o a fs w kv := by
  have hd := hE.d t
  have hd' := hE.d t'
  have hx := ev_rel h x
  have hs := ev_rel h s
  unfold St.appMk at hk
  split at hk
  · rename_i el ku c0 kx n e1 e2 e3 e4
    rw [e1] at hd
    rw [e2] at hd'
    rw [e4] at hx
    rw [e3] at hs
    obtain ⟨hxv, _⟩ := VRep_int.1 hx
    split at hk
    · rename_i k hkk
      split at hk
      · rename_i hcond
        obtain ⟨hn, hsz0, hby⟩ := hcond
        obtain ⟨h0, h1, hkv⟩ := hk
        obtain ⟨_, _, inf, z, hi, hsz, hb, hz, hzc⟩ := hE.k hkk
        have hs : a.eval s = c0 := hs
        rw [nilSlice_eq hn] at hs
        have hzs : z.cells.size = k.sz := by
          have := congrArg List.length hzc
          rw [zero_len] at this
          simpa using this
        obtain ⟨cap, hc1, hc2, hrun⟩ := run_append_zeros_nil (P := E.P) w t t' o.type el ku inf z hd hd' hi hz kx n h0 (by omega) h1 (by omega)
        have T : Turn B ρ (upd ρ st.hp.length (.slice (some ⟨w.heap.size, 0, none⟩) n.toNat cap)) st.hp (st.hp ++ [some (.row el k (List.replicate n.toNat k.dft))]) w
            (w.drew.alloc (.cells (Builtin.zeroCells z.cells n.toNat ++ Builtin.zeroCells z.cells (cap - n.toNat)) el)) st.hp.length none :=
          Turn.new ⟨rfl, rfl, rfl, by simp, fun k hk _ => Below.heap_alloc w.drew _ k hk⟩ (fun b hb => by cases hb; exact Nat.le_refl _)
        refine ⟨_, _, _, _, _, _, ?_, .inl rfl, hkv, h.turn T (fun ob hob => ?_), ⟨by simp, (upd_same _ _ _).symm, _, _, _, rfl⟩⟩
        · unfold execOp
          rw [e]
          simp only [resolve, hc, ha, hta, Sem.run_bind, Sem.run_pure, Result.andThen_ok, invoke, builtin, List.map_toArray, List.map_cons, List.map_nil, hs, hxv, hrun]
        · rw [getElem?_snoc] at hob
          cases hob
          rw [upd_same]
          have hh : (w.drew.alloc (.cells (Builtin.zeroCells z.cells n.toNat ++ Builtin.zeroCells z.cells (cap - n.toNat)) el)).heap[w.heap.size]? = some (.cells (Builtin.zeroCells z.cells n.toNat ++ Builtin.zeroCells z.cells (cap - n.toNat)) el (0, 0)) := heap_alloc_new w.drew _
          have hcur : (Builtin.zeroCells z.cells n.toNat ++ Builtin.zeroCells z.cells (cap - n.toNat)).size = cap * k.sz := by
            rw [Array.size_append, size_zeroCells, size_zeroCells, hzs, ← Nat.add_mul]; congr 1; omega
          refine ⟨(Builtin.zeroCells z.cells n.toNat ++ Builtin.zeroCells z.cells (cap - n.toNat)).toList.take (n.toNat * k.sz), .inl ⟨?_, .inr ⟨_, cap, _, by simp, Nat.zero_le _, hh, by simpa using hc1, by simp only [maxLen]; omega, hcur, by simp⟩⟩, fun i x hx => ?_⟩
          · rw [List.length_take, List.length_replicate, Array.length_toList, hcur]
            have : n.toNat * k.sz ≤ cap * k.sz := Nat.mul_le_mul_right _ hc1
            omega
          · obtain ⟨hi', hx3⟩ := List.getElem?_eq_some_iff.1 hx
            rw [List.length_replicate] at hi'
            simp only [List.getElem_replicate] at hx3
            subst hx3
            have h2 : (i + 1) * k.sz ≤ n.toNat * k.sz := Nat.mul_le_mul_right _ hi'
            rw [List.drop_take, List.take_take, Nat.min_eq_left (by rw [Nat.add_mul] at h2; omega), zeros_seg hzs hi', hzc]
            exact rep_zero k
      · exact hk.elim
    · exact hk.elim
  · exact hk.elim
end
end Go.Vc
end
section
/- One operation, and a region of them. -/
namespace Go.Vc
open Go.RowKit

/-- What a function does, as the walk sees it: its arguments, a state, and what is asked behind a return or a panic. -/
abbrev CallSem := List SV → St → (SV → St → Prop) → (SV → St → Prop) → Prop

/-- What a deferred function does: what it has caught, a state, the value that is on its way, what is asked behind it. -/
abbrev DefSem := List SV → St → Option SV → (St → Option SV → Prop) → Prop

structure Env extends Ty where
  fns : Nat → Option CallSem
  keep : List Nat
  seqs : Nat → Option (CallSem → CallSem) := fun _ => none
  dfs : Nat → Option DefSem := fun _ => none
  yld : Option CallSem := none
  /-- Slots whose bytes of a text are a row of the walk's own. -/
  own : List Nat := []
  rnd : Bool := false

def CallPost (B : Base) (a : Act) (fs : List Act) (kv kp : SV → St → Prop) : Ending → World → Prop
  | .returned v, w => ∃ s st ρ, kv s st ∧ StRel B ρ st a fs w ∧ s.rel (cx B ρ st.hp w) v
  | .panicked ch, w => ∃ v s st ρ, ch = [{ v := v, recovered := false }] ∧ kp s st ∧ StRel B ρ st a fs w ∧ s.rel (cx B ρ st.hp w) v
  | .outgrown, _ => False

/-- A call comes to its end: by a body, or at once. -/
def Goes (P : Program) (f : Nat) (args : Array Value) (w : World) (R : Ending → World → Prop) : Prop :=
  ((callFunc f args).run P w = .ok (.enter f args) w ∧ Calls P f args w R) ∨ ∃ v, (callFunc f args).run P w = .ok (.value v) w ∧ R (.returned v) w

def CallOk (P : Program) (gl : Gl) (f : Nat) (c : CallSem) : Prop :=
  ∀ args st kv kp B ρ a fs w vs, B.gl = gl → c args st kv kp → StRel B ρ st a fs w → SV.rels (cx B ρ st.hp w) args vs → Goes P f vs.toArray w (CallPost B a fs kv kp)

/-- A call of yield: it comes to a round. -/
def YieldOk (P : Program) (B : Base) (fs : List Act) (h : CallSem) : Prop :=
  ∀ args st kv kp ρ a w vs, h args st kv kp → StRel B ρ st a fs w → SV.rels (cx B ρ st.hp w) args vs →
    ∃ fn tmps assign body, (Instr.yield B.lp vs.toArray).run P w = .ok (.round B.lp fn tmps assign body) w ∧ RoundIn Fence.wide 0 P B.lp fn tmps assign body w (CallPost B a fs kv kp)

/-- A function that is ranged over. -/
def SeqOk (P : Program) (gl : Gl) (f : Nat) (q : CallSem → CallSem) : Prop :=
  (∀ args w, (callFunc f args).run P w = .ok (.enter f args) w) ∧
  ∀ h args st kv kp B ρ a fs w vs, B.gl = gl → YieldOk P B (a :: fs) h → q h args st kv kp → StRel B ρ st a fs w → SV.rels (cx B ρ st.hp w) args vs → Calls P f vs.toArray w (CallPost B a fs kv kp)

/-- A deferred function, as its frame is left: by a return, or by a panic. -/
def modeOf : Option Value → FrameMode
  | none => .returning
  | some v => .panicking [{ v := v, recovered := false }]
def ORel (C : Cx) : Option SV → Option Value → Prop
  | none, o => o = none
  | some s, o => ∃ v, o = some v ∧ s.rel C v
def DefPost (B : Base) (a : Act) (fs : List Act) (K : St → Option SV → Prop) : Ending → FrameMode → World → Prop
  | .returned _, u, w => ∃ st p ρ o, K st p ∧ StRel B ρ st a fs w ∧ ORel (cx B ρ st.hp w) p o ∧ settle u = modeOf o
  | _, _, _ => False
def DefOk (P : Program) (gl : Gl) (f : Nat) (d : DefSem) : Prop :=
  (∀ args w, (callFunc f args).run P w = .ok (.enter f args) w) ∧
  ∀ cap st p K B ρ a fs w vs o, B.gl = gl → d cap st p K → StRel B ρ st a fs w → SV.rels (cx B ρ st.hp w) cap vs → ORel (cx B ρ st.hp w) p o → CallsDIn Fence.wide 0 P f vs.toArray (modeOf o) w (DefPost B a fs K)

structure Env.Ok (E : Env) (gl : Gl) : Prop where
  ty : E.toTy.Ok
  fn : ∀ f c, E.fns f = some c → CallOk E.P gl f c
  seq : ∀ f q, E.seqs f = some q → SeqOk E.P gl f q
  df : ∀ f d, E.dfs f = some d → DefOk E.P gl f d
  mixed : E.P.follows .mixedOrders = true

/-- A text's bytes, as data. -/
def St.toBytes (E : Ty) (st : St) (src dst : Nat) (s : SV) (kv : SV → St → Prop) : Prop :=
  match E.d src, E.d dst, s with
  | .str, .sl e, .dat .str l => if isU8 (E.d e) then kv (.dat (.sl (.int .u8)) l) st else False
  | _, _, _ => False

/-- A text's bytes, as a row of the walk's own. -/
def St.toRow (E : Ty) (st : St) (src dst : Nat) (s : SV) (kv : SV → St → Prop) : Prop :=
  match E.d src, E.d dst, s with
  | .str, .sl e, .dat .str l => if isU8 (E.d e) then kv (.own st.hp.length) { st with hp := st.hp ++ [some (.row (e + BIG) (.int .u8) l)] } else False
  | _, _, _ => False
def ownDst (l : List Nat) : Option Nat → Bool
  | some d => l.contains d
  | none => false

/-- A slice held against nil. -/
def St.eqNil (E : Ty) (st : St) (op : BinOp) (ty : Nat) (s t : SV) (kv : SV → St → Prop) : Prop :=
  match E.d ty, t with
  | .sl _, .cst c => if nilSlice c then
      match st.list s with
      | some ⟨_, xs⟩ => match op with
        | .eql => ∀ b : Bool, (b = true → xs = []) → kv (.dat .bool b) st
        | .neq => ∀ b : Bool, (b = false → xs = []) → kv (.dat .bool b) st
        | _ => False
      | none => False
    else False
  | _, _ => False

/-- How much room a slice has. -/
def St.capOf (E : Ty) (st : St) (t : Nat) (x : SV) (kv : SV → St → Prop) : Prop :=
  match E.d t, x with
  | .sl _, .cst c => if nilSlice c then kv (.dat (.int .i64) (0 : Int)) st else False
  | .sl _, x => match st.list x with
    | some ⟨_, xs⟩ => ∀ c : Int, (xs.length : Int) ≤ c → c ≤ 9223372036854775807 → kv (.dat (.int .i64) c) st
    | none => False
  | _, _ => False

def vcCall (E : Env) (st : St) (c : Call) (kv kp : SV → St → Prop) : Prop :=
  match c.callee with
  | .builtin .append => match c.args.toList, c.argTypes.toList with
    | [s, x], [t, t'] => if t' = t then
        match st.ev x with
        | .dat .str _ => False
        | sx => st.append E.toTy t (st.ev s) sx kv
      else match E.d t' with
        | .str => st.appStr E.toTy t t' (st.ev s) (st.ev x) kv
        | .int _ => st.appMk E.toTy t t' (st.ev s) (st.ev x) kv
        | _ => False
    | _, _ => False
  | .builtin .cap => match c.args.toList, c.argTypes.toList with
    | [x], [t] => st.capOf E.toTy t (st.ev x) kv
    | _, _ => False
  | .value (.func f) => match E.fns f with
    | some cs => cs (c.args.toList.map st.ev) st kv kp
    | none => False
  | .value x => match st.ev x with
    | .fn f cap => match E.fns f with
      | some cs => cs (c.args.toList.map st.ev ++ cap) st kv kp
      | none => False
    | .yld => match E.yld with
      | some h => h (c.args.toList.map st.ev) st kv kp
      | none => False
    | _ => False
  | _ => False

/-- A character of a text, and how many bytes it has. -/
def udec (l : List Int) (i : Nat) : Nat × Nat := Lib.decodeN (l.length - i) (l.getD i 0).toNat (l.getD (i + 1) 0).toNat (l.getD (i + 2) 0).toNat (l.getD (i + 3) 0).toNat

def St.range (E : Ty) (st : St) (t : Nat) (s : SV) (kv : SV → St → Prop) : Prop :=
  match E.d t, s with
  | .str, .dat .str l => kv (.ptr st.hp.length 0) { st with hp := st.hp ++ [some (.siter l 0)] }
  | _, _ => False

def St.next (st : St) (s : SV) (kv : SV → St → Prop) : Prop :=
  match s with
  | .ptr n 0 => match st.hp[n]? with
    | some (some (.siter l pos)) => (pos < l.length → kv (.tup [.cst (.bool true), .dat (.int .i64) (pos : Int), .dat (.int .i32) ((udec l pos).1 : Int)]) { st with hp := st.hp.set n (some (.siter l (pos + (udec l pos).2))) }) ∧
        (l.length ≤ pos → kv (.tup [.cst (.bool false)]) st)
    | _ => False
  | _ => False

/-- A 'defer' of a function without arguments. -/
def St.defr (E : Env) (st : St) (o : Oper) : Option St :=
  match o.op with
  | .defer c => if E.rnd then none else match c.callee, c.args.toList with
    | .value x, [] => match st.ev x with
      | .fn f cap => some { st with df := .fn f cap :: st.df }
      | _ => none
    | _, _ => none
  | _ => none

def opnds : Op → List Operand
  | .call c => c.args.toList ++ (match c.callee with | .value x => [x] | _ => [])
  | .box _ x => [x]
  | .build _ p => p.toList.map (·.2)
  | .buildSlice _ _ p => p.toList.map (·.2)
  | .convert _ _ x => [x]
  | .binOp _ _ x y _ => [x, y]
  | .panic x => [x]
  | .makeSlice _ l c => [l, c]
  | _ => []

/-- Values that stand under a condition: the condition is asked for, the values are taken. -/
def St.ungate : List Operand → St → List Prop × St
  | [], st => ([], st)
  | .tmp t :: l, st => match st.sl.lookup t with
    | some (.gd p s) => ((p = true) :: (ungate l { st with sl := (t, s) :: st.sl }).1, (ungate l { st with sl := (t, s) :: st.sl }).2)
    | _ => ungate l st
  | _ :: l, st => ungate l st

/-- A choice whose question is answered. -/
def St.picked (st : St) : Op → Option Operand
  | .pick (.tmp t) x y => match st.kn.lookup t with
    | some true => some x
    | some false => some y
    | none => none
  | _ => none

def vcOp' (E : Env) (st : St) (o : Oper) (kv kp : SV → St → Prop) : Prop :=
  match o.op with
    | .box t x => st.box E.toTy t (st.ev x) kv
    | .alloc t => st.alloc E.toTy t kv
    | .build t parts => st.build E.toTy t parts.toList kv
    | .buildSlice t n parts => st.buildSlice E.toTy t n parts.toList kv
    | .store t ad x => conj (st.g ad).1 (conj (st.g x).1 (st.store E.toTy t (st.g ad).2 (st.g x).2 kv))
    | .pick c x y => match st.ev c with
      | .dat .bool b => (b = true → conj (st.g x).1 (kv (st.g x).2 st)) ∧ (b = false → conj (st.g y).1 (kv (st.g y).2 st))
      | _ => False
    | .convert src dst x => if ownDst E.own o.dst then st.toRow E.toTy src dst (st.ev x) kv else st.toBytes E.toTy src dst (st.ev x) kv
    | .makeSlice t l c => st.make E.toTy t (st.ev l) (st.ev c) kv
    | .binOp op ty x y _ => st.eqNil E.toTy op ty (st.ev x) (st.ev y) kv
    | .panic x => match st.ev x with
      | .ifc t s => kp (.ifc t s) st
      | _ => False
    | .call c => vcCall E st c kv kp
    | .range t x => st.range E.toTy t (st.ev x) kv
    | .next x true => st.next (st.ev x) kv
    | _ => False

def vcOp (E : Env) (st : St) (o : Oper) (kv kp : SV → St → Prop) : Prop :=
  match st.picked o.op with
  | some x => conj (st.g x).1 (kv (st.g x).2 st)
  | none => match st.op1 E.toTy o with
    | some (obs, s) => conj obs (kv s st)
    | none => conj (st.ungate (opnds o.op)).1 (vcOp' E (st.ungate (opnds o.op)).2 o kv kp)

section
variable {E : Env} {gl : Gl} {B : Base} {ρ : Nat → Value} {st : St} {a : Act} {fs : List Act} {w : World} {kv kp : SV → St → Prop}

theorem StRel.grow {w' : World} (h : StRel B ρ st a fs w) (hg : w.grownBy w' none) : StRel B ρ st a fs w' := by
  have le : (cx B ρ st.hp w).le (cx B ρ st.hp w') := ⟨hg.size, fun b hb _ => hg.block b hb (by simp), fun _ _ h => h, Nat.le_refl _, fun _ _ => rfl, rfl⟩
  refine ⟨⟨h.h.kept.trans (S' := fun _ => False) ⟨hg.os, hg.tape, hg.output, hg.size, fun b hb _ => hg.block b hb (by simp)⟩ (fun _ _ h => h.elim),
    fun n o ho => (h.h.obj n o ho).le le (fun b hb => hg.block b (h.h.live_block ⟨o, ho⟩ hb) (by simp)), h.h.sep, h.h.own, h.h.fb⟩, h.s.le le, h.kn, h.k.le le, h.d.le le, h.g⟩

theorem toBytes_sound (hE : E.Ok gl) (h : StRel B ρ st a fs w) {src dst : Nat} {x : Operand} {o : Oper} (e : o.op = .convert src dst x) (hk : st.toBytes E.toTy src dst (st.ev x) kv) : Yield E.toTy B o a fs w kv := by
  have hs := hE.ty.d src
  have hd := hE.ty.d dst
  have hx := ev_rel h x
  unfold St.toBytes at hk
  split at hk
  · rename_i el l e1 e2 e3
    rw [e1] at hs
    rw [e2] at hd
    rw [e3] at hx
    split at hk
    · rename_i h8
      have he := hE.ty.d el
      rw [isU8_eq h8] at he
      obtain ⟨s, hs1, hs2, hs3⟩ := VRep_str.1 hx
      have hrun := run_bytes_of_string (P := E.P) w src dst el s hs hd he
      have hg : w.grownBy (w.drew.alloc (.cells (bytesRow s (grownCap w s.size 0 el)) el ((bytesRow s (grownCap w s.size 0 el)).size, (bytesRow s (grownCap w s.size 0 el)).size + 1))) none :=
        ⟨rfl, rfl, rfl, by simp, fun k hk _ => Below.heap_alloc w.drew _ k hk⟩
      have h2 := h.grow hg
      refine ⟨_, _, _, _, ρ, .slice (some ⟨w.heap.size, 0, none⟩) s.size (grownCap w s.size 0 el), ?_, .inl rfl, hk, h2, VRep_sl.2 ⟨some ⟨w.heap.size, 0, none⟩, grownCap w s.size 0 el, ?_, ?_, ?_, fun hne => ⟨_, rfl, by simp, ?_, fun i y hy => ?_⟩⟩⟩
      · unfold execOp
        rw [e]
        simp only [hs1, Sem.run_bind, hrun, Result.andThen_ok, Sem.run_pure]
      · rw [← hs2, bs_length]
      · rw [← hs2, bs_length]; exact grownCap_ge _ _ _ _
      · have := grownCap_le_maxLen w s.size 0 el (by simp only [maxLen]; omega)
        simpa [maxLen] using this
      · rintro (hF | ⟨m, hm, hb⟩)
        · have := (h.h.fb _ hF).1
          have := h.h.kept.size
          simp only at *
          omega
        · have := h.h.live_block hm hb
          simp only at *
          omega
      · rw [← hs2] at hy
        have hi : i < s.size := by
          have := (List.getElem?_eq_some_iff.1 hy).1
          rwa [bs_length] at this
        have hy2 : y = (s.data[i]'(by simpa using hi)).toNat := by
          have := (List.getElem?_eq_some_iff.1 hy).2
          simpa [bs] using this.symm
        refine ⟨[.int .u8 y], ⟨rfl, ?_⟩, fun j u hu => ?_⟩
        · have := (s.data[i]'(by simpa using hi)).toNat_lt
          rw [hy2]
          constructor <;> simp [IntKind.min, IntKind.max, IntKind.signed, IntKind.bits] <;> omega
        · cases j with
          | zero =>
            cases hu
            have hb := bytesRow_at s (grownCap w s.size 0 el) i (by simpa using hi)
            rw [addr_add]
            simp only [Kd.sz, Nat.mul_one, Nat.add_zero, Nat.zero_add]
            have hn : (w.drew.alloc (.cells (bytesRow s (grownCap w s.size 0 el)) el ((bytesRow s (grownCap w s.size 0 el)).size, (bytesRow s (grownCap w s.size 0 el)).size + 1))).heap[w.heap.size]? = _ := heap_alloc_new w.drew _
            unfold World.cell?
            simp only [hn]
            rw [hy2]
            simpa using hb
          | succ j => simp at hu
    · exact hk.elim
  · exact hk.elim

theorem toRow_sound (hE : E.Ok gl) (h : StRel B ρ st a fs w) {src dst : Nat} {x : Operand} {o : Oper} (e : o.op = .convert src dst x) (hk : st.toRow E.toTy src dst (st.ev x) kv) : Yield E.toTy B o a fs w kv := by
  have hs := hE.ty.d src
  have hd := hE.ty.d dst
  have hx := ev_rel h x
  unfold St.toRow at hk
  split at hk
  · rename_i el l e1 e2 e3
    rw [e1] at hs
    rw [e2] at hd
    rw [e3] at hx
    split at hk
    · rename_i h8
      have he := hE.ty.d el
      rw [isU8_eq h8] at he
      obtain ⟨s, hs1, hs2, hs3⟩ := VRep_str.1 hx
      have hrun := run_bytes_of_string (P := E.P) w src dst el s hs hd he
      have hcge := grownCap_ge w s.size 0 el
      have hcle := grownCap_le_maxLen w s.size 0 el (by simp only [maxLen]; omega)
      generalize grownCap w s.size 0 el = cap at hrun hcge hcle
      have hbz : (bytesRow s cap).size = cap := by
        have e : s.data.size = s.size := rfl
        simp only [bytesRow, Array.size_append, Array.size_map, Array.size_replicate, e]; omega
      have T : Turn B ρ (upd ρ st.hp.length (.slice (some ⟨w.heap.size, 0, none⟩) s.size cap)) st.hp (st.hp ++ [some (.row (el + BIG) (.int .u8) l)]) w
          (w.drew.alloc (.cells (bytesRow s cap) el ((bytesRow s cap).size, (bytesRow s cap).size + 1))) st.hp.length none :=
        Turn.new ⟨rfl, rfl, rfl, by simp, fun k hk _ => Below.heap_alloc w.drew _ k hk⟩ (fun b hb => by cases hb; exact Nat.le_refl _)
      refine ⟨_, _, _, _, _, _, ?_, .inl rfl, hk, h.turn T (fun ob hob => ?_), ⟨by simp, (upd_same _ _ _).symm, _, _, _, rfl⟩⟩
      · unfold execOp
        rw [e]
        simp only [hs1, Sem.run_bind, hrun, Result.andThen_ok, Sem.run_pure]
      · rw [getElem?_snoc] at hob
        cases hob
        rw [upd_same]
        have hn : (w.drew.alloc (.cells (bytesRow s cap) el ((bytesRow s cap).size, (bytesRow s cap).size + 1))).heap[w.heap.size]? = some (.cells (bytesRow s cap) el ((bytesRow s cap).size, (bytesRow s cap).size + 1)) := heap_alloc_new w.drew _
        have hll : l.length = s.size := by rw [← hs2, bs_length]
        refine ⟨(bytesRow s cap).toList.take (l.length * 1), .inr ⟨Nat.le_add_left _ _, ?_, w.heap.size, cap, bytesRow s cap, ((bytesRow s cap).size, (bytesRow s cap).size + 1), by rw [hll], ?_, Nat.le_refl _, by rw [hll]; exact hcge, hcle, by rw [hbz]; simp [Kd.sz], rfl⟩, fun i y hy => ?_⟩
        · simp only [Kd.sz, List.length_take, Array.length_toList, hbz]; omega
        · rw [Nat.add_sub_cancel]; exact hn
        · have hi : i < s.size := by
            have := (List.getElem?_eq_some_iff.1 hy).1
            omega
          rw [← hs2] at hy
          have hy2 : y = (s.data[i]'(by simpa using hi)).toNat := by
            have := (List.getElem?_eq_some_iff.1 hy).2
            simpa [bs] using this.symm
          have hb := bytesRow_at s cap i (by simpa using hi)
          have hseg : (((bytesRow s cap).toList.take (l.length * 1)).drop (i * 1)).take 1 = [.int .u8 y] := by
            apply List.ext_getElem?
            intro j
            cases j with
            | zero =>
              rw [List.getElem?_take_of_lt (by omega), List.getElem?_drop, List.getElem?_take_of_lt (by omega), hy2, Array.getElem?_toList, show i * 1 + 0 = i by omega, hb]
              rfl
            | succ j => simp [List.getElem?_take]
          simp only [Kd.sz]
          rw [hseg]
          refine ⟨rfl, ?_⟩
          have := (s.data[i]'(by simpa using hi)).toNat_lt
          rw [hy2]
          constructor <;> simp [IntKind.min, IntKind.max, IntKind.signed, IntKind.bits] <;> omega
    · exact hk.elim
  · exact hk.elim

theorem nil_any {P : Program} {t e : Nat} (hd : P.underlying t = some (.slice e)) (d : Nat) (A : Option Addr) (n c : Nat) : (Op.equalIn (d + 1) t (.slice A n c) (.slice none 0 0)).run P w = .ok A.isNone w := by
  cases A <;> simp [Op.equalIn, run_underlying hd]

theorem eqNil_sound (hE : E.Ok gl) (h : StRel B ρ st a fs w) {op : BinOp} {ty yt : Nat} {x y : Operand} {o : Oper} (e : o.op = .binOp op ty x y yt) (hk : st.eqNil E.toTy op ty (st.ev x) (st.ev y) kv) : Yield E.toTy B o a fs w kv := by
  have hd := hE.ty.d ty
  have hx := ev_rel h x
  have hy := ev_rel h y
  unfold St.eqNil at hk
  split at hk
  · rename_i el c e1 e2
    rw [e1] at hd
    rw [e2] at hy
    have hd : E.P.underlying ty = some (.slice el) := hd
    have hy : a.eval y = c := hy
    split at hk
    · rename_i hn
      rw [nilSlice_eq hn] at hy
      split at hk
      · rename_i k xs hl
        obtain ⟨A, cc, hv, h1, _, h2⟩ := list_rel h hx hl
        have hnil : A.isNone = true → xs = [] := by
          intro hA
          cases xs with
          | nil => rfl
          | cons u l => obtain ⟨ad, hA', _⟩ := h2 (by simp); rw [hA'] at hA; cases hA
        have q : (Op.equal ty (.slice A xs.length cc) (.slice none 0 0)).run E.P w = .ok A.isNone w := nil_any hd 9999 A _ _
        split at hk
        · refine ⟨_, w, _, st, ρ, .bool A.isNone, ?_, .inl rfl, hk A.isNone hnil, h, VRep_bool.2 rfl⟩
          unfold execOp
          rw [e]
          simp only [hv, hy, eqGuard, binOp, Sem.run_bind, Sem.run_pure]
          simp [q]
        · refine ⟨_, w, _, st, ρ, .bool (!A.isNone), ?_, .inl rfl, hk (!A.isNone) (by simpa using hnil), h, VRep_bool.2 rfl⟩
          unfold execOp
          rw [e]
          simp only [hv, hy, eqGuard, binOp, Sem.run_bind, Sem.run_pure]
          simp [q]
        · exact hk.elim
      · exact hk.elim
    · exact hk.elim
  · exact hk.elim

theorem capOf_sound (hE : E.Ok gl) (h : StRel B ρ st a fs w) {t : Nat} {x : Operand} {o : Oper} {c : Call} (e : o.op = .call c) (hc : c.callee = .builtin .cap) (ha : c.args = #[x]) (hta : c.argTypes = #[t])
    (hk : st.capOf E.toTy t (st.ev x) kv) : Yield E.toTy B o a fs w kv := by
  have hd := hE.ty.d t
  have hx := ev_rel h x
  have go : ∀ (e' : Nat) (A : Option Addr) (n cc : Nat), E.P.underlying t = some (.slice e') → a.eval x = .slice A n cc → (execOp a.eval o).run E.P w = .ok (.value (goInt cc)) w := by
    intro e' A n cc hd hx
    unfold execOp
    rw [e]
    simp only [resolve, hc, ha, hta, Sem.run_bind, Sem.run_pure, Result.andThen_ok, invoke, builtin, List.map_toArray, List.map_cons, List.map_nil, hx]
    simp [Builtin.cap_, run_underlying hd]
  unfold St.capOf at hk
  split at hk
  · rename_i e' c0 e1 e2
    rw [e1] at hd
    rw [e2] at hx
    split at hk
    · rename_i hn
      have hx : a.eval x = c0 := hx
      rw [nilSlice_eq hn] at hx
      exact ⟨_, w, _, st, ρ, _, go e' _ _ _ hd hx, .inl rfl, hk, h, VRep_int.2 ⟨rfl, by constructor <;> decide⟩⟩
    · exact hk.elim
  · rename_i e' s e1 hne
    rw [e1] at hd
    split at hk
    · rename_i k xs hl
      obtain ⟨A, cc, hv, h1, h2, _⟩ := list_rel h hx hl
      exact ⟨_, w, _, st, ρ, _, go _ _ _ _ hd hv, .inl rfl, hk cc (by omega) (by omega), h, VRep_int.2 ⟨rfl, by constructor <;> simp [IntKind.min, IntKind.max, IntKind.signed, IntKind.bits] <;> omega⟩⟩
    · exact hk.elim
  · exact hk.elim

theorem bs_get (s : ByteArray) (i : Nat) : (s.get! i).toNat = ((bs s).getD i 0).toNat := by
  by_cases h : i < s.size
  · rw [bs_getD s i h]
    rw [show s.get! i = s[i]'h by
      obtain ⟨d⟩ := s
      have h' : i < d.size := h
      show d[i]! = d[i]
      rw [getElem!_pos d i h']]
    rfl
  · have h' : ¬ i < s.data.size := h
    rw [show s.get! i = default by
      obtain ⟨d⟩ := s
      show d[i]! = default
      rw [getElem!_neg d i h']]
    rw [List.getD_eq_getElem?_getD, List.getElem?_eq_none (by rw [bs_length]; omega)]
    rfl

theorem udec_eq (s : ByteArray) (i : Nat) : Utf8.decode s i = udec (bs s) i := by
  rw [Lib.decode_at, udec, bs_length, bs_get, bs_get, bs_get, bs_get]

set_option maxRecDepth 100000 in
theorem udec_lt (l : List Int) (i : Nat) (h : ∀ j, (l.getD j 0).toNat < 256) : (udec l i).1 ≤ 2097151 := by
  unfold udec Lib.decodeN
  have h0 := h i
  have h1 := h (i + 1)
  have h2 := h (i + 2)
  have h3 := h (i + 3)
  simp only [ge_iff_le]
  repeat' split
  all_goals (simp only []; omega)

theorem range_sound (hE : E.Ok gl) (h : StRel B ρ st a fs w) {t : Nat} {x : Operand} {o : Oper} (e : o.op = .range t x) (hk : st.range E.toTy t (st.ev x) kv) : Yield E.toTy B o a fs w kv := by
  have hd := hE.ty.d t
  have hx := ev_rel h x
  unfold St.range at hk
  split at hk
  · rename_i l e1 e2
    rw [e1] at hd
    rw [e2] at hx
    obtain ⟨s, hs, hl, hsz⟩ := VRep_str.1 hx
    have hd : E.P.underlying t = some .string := hd
    have T : Turn B ρ (upd ρ st.hp.length (.pointer (some ⟨w.heap.size, 0, none⟩))) st.hp (st.hp ++ [some (.siter l 0)]) w (w.alloc (.stringIter s 0)) st.hp.length none :=
      Turn.new (World.grownBy_alloc w _ none) (fun b hb => by cases hb; exact Nat.le_refl _)
    refine ⟨_, _, _, _, _, _, ?_, .inl rfl, hk, h.turn T (fun ob hob => ?_), ⟨by simp, w.heap.size, upd_same _ _ _, rfl⟩⟩
    · unfold execOp
      rw [e]
      simp [hs, Instr.range, run_underlying hd, run_newObj_alloc]
    · rw [getElem?_snoc] at hob
      cases hob
      rw [upd_same]
      exact ⟨_, s, rfl, heap_alloc_new w _, hl, hsz⟩
  · exact hk.elim

theorem next_sound (h : StRel B ρ st a fs w) {x : Operand} {o : Oper} (e : o.op = .next x true) (hk : st.next (st.ev x) kv) : Yield E.toTy B o a fs w kv := by
  have hx := ev_rel h x
  unfold St.next at hk
  split at hk
  · rename_i n e2
    rw [e2] at hx
    obtain ⟨hn, b, hb, hxv⟩ := hx
    split at hk
    · rename_i l pos ho
      obtain ⟨b', s, hb', hh, hl, hsz⟩ := h.h.obj n _ ho
      simp only at hb
      rw [hb] at hb'
      cases hb'
      have hlen : l.length = s.size := by rw [← hl, bs_length]
      have hget : (getObj b).run E.P w = .ok (.stringIter s pos) w := by simp [getObj, Sem.run, hh]
      by_cases hp : pos < l.length
      · have hp' : pos < s.size := by omega
        have T : Turn B ρ ρ st.hp (st.hp.set n (some (.siter l (pos + (udec l pos).2)))) w (w.putObj b (.stringIter s (pos + (udec l pos).2))) n (some b) :=
          Turn.at ho ⟨rfl, rfl, rfl, by simp, fun k hk hne => World.putObj_heap_other (fun e => hne (by rw [e]))⟩ (fun c hc => by cases hc; rw [hb]; rfl)
        have hu : Utf8.decode s pos = udec l pos := by rw [udec_eq, hl]
        refine ⟨_, _, _, _, ρ, .tuple #[.bool true, goInt pos, .int .i32 (udec l pos).1], ?_, .inl rfl, hk.1 hp, h.turn T (fun ob hob => ?_), ?_⟩
        · unfold execOp
          rw [e]
          have hset : (setObj b (.stringIter s (pos + (Utf8.decode s pos).2))).run E.P w = .ok () (w.putObj b (.stringIter s (pos + (Utf8.decode s pos).2))) := by simp [setObj, Sem.run, hh, World.putObj]
          simp only [hxv, Instr.next, Sem.run_bind, hget, Result.andThen_ok, hp', if_true, hset, Sem.run_pure]
          rw [hu]
        · have hlt : n < st.hp.length := (List.getElem?_eq_some_iff.1 ho).1
          rw [List.getElem?_set_self hlt] at hob
          cases hob
          exact ⟨b, s, hb, World.putObj_heap_same (Array.getElem?_eq_some_iff.1 hh).1, hl, hsz⟩
        · refine ⟨[_, _, _], rfl, _, _, rfl, rfl, _, _, rfl, VRep_int.2 ⟨rfl, ?_⟩, _, _, rfl, VRep_int.2 ⟨rfl, ?_⟩, rfl⟩
          · constructor <;> simp [IntKind.min, IntKind.max, IntKind.signed, IntKind.bits] <;> omega
          · have := udec_lt l pos (fun j => by
              by_cases hj : j < l.length
              · have := bs_range s (l.getD j 0) (by rw [hl, List.getD_eq_getElem?_getD, List.getElem?_eq_getElem hj]; exact List.getElem_mem hj)
                omega
              · rw [List.getD_eq_getElem?_getD, List.getElem?_eq_none (by omega)]; simp)
            constructor <;> simp [IntKind.min, IntKind.max, IntKind.signed, IntKind.bits] <;> omega
      · have hp' : ¬ pos < s.size := by omega
        refine ⟨_, _, _, _, ρ, .tuple #[.bool false], ?_, .inl rfl, hk.2 (by omega), h, ⟨[_], rfl, _, _, rfl, rfl, rfl⟩⟩
        unfold execOp
        rw [e]
        simp only [hxv, Instr.next, Sem.run_bind, hget, Result.andThen_ok, hp', if_false, Sem.run_pure]
    · exact hk.elim
  · exact hk.elim

/-! ### What a logic of single operations must give -/
abbrev fen (r : Option Nat) : Fence := { Fence.wide with round := r }

structure Lg (P : Program) (rnd dfr : Prop) where
  W : Oper → Act → World → (Act → World → Prop) → (Exit → Act → World → Prop) → Prop
  val : ∀ {o : Oper} {a : Act} {w : World} {next : Act → World → Prop} {Q : Exit → Act → World → Prop} {v : Value} {w' : World}, (∀ c, o.op ≠ .defer c) → (execOp a.eval o).run P w = .ok (.value v) w' → next (a.put o.dst v) w' → W o a w next Q
  skip : ∀ {o : Oper} {a : Act} {w : World} {next : Act → World → Prop} {Q : Exit → Act → World → Prop} {w' : World}, (∀ c, o.op ≠ .defer c) → (execOp a.eval o).run P w = .ok .skip w' → next (a.put o.dst undef) w' → W o a w next Q
  enter : ∀ {o : Oper} {a : Act} {w : World} {next : Act → World → Prop} {Q : Exit → Act → World → Prop} {f : FuncId} {args : Array Value} {w' : World}, (∀ c, o.op ≠ .defer c) → (execOp a.eval o).run P w = .ok (.enter f args) w' →
    Calls P f args w' (fun e w'' => match e with
      | .returned v => next (a.put o.dst v) w''
      | .panicked ch => Q (.panic ch) a w''
      | .outgrown => False) → W o a w next Q
  panic : ∀ {o : Oper} {a : Act} {w : World} {next : Act → World → Prop} {Q : Exit → Act → World → Prop} {v : Value} {w' : World}, (∀ c, o.op ≠ .defer c) → (execOp a.eval o).run P w = .halt (.panic v) w' → Q (.panic [{ v := v, recovered := false }]) a w' → W o a w next Q
  defer : ∀ {o : Oper} {a : Act} {w : World} {next : Act → World → Prop} {Q : Exit → Act → World → Prop} {d : Deferred} {w' : World}, dfr → (execOp a.eval o).run P w = .ok (.defer d) w' → next ({ a with defers := d :: a.defers }.put o.dst undef) w' → W o a w next Q
  round : ∀ {o : Oper} {a : Act} {w : World} {next : Act → World → Prop} {Q : Exit → Act → World → Prop} {l : Nat} {f : FuncId} {tmps : Array Value} {assign body : Code} {w' : World}, rnd → (∀ c, o.op ≠ .defer c) → (execOp a.eval o).run P w = .ok (.round l f tmps assign body) w' →
    RoundIn Fence.wide 0 P l f tmps assign body w' (fun e w'' => match e with
      | .returned v => next (a.put o.dst v) w''
      | .panicked ch => Q (.panic ch) a w''
      | .outgrown => False) → W o a w next Q

def Lg.plain (P : Program) : Lg P False False where
  W o a w next Q := o.wp P a w next Q
  val _ h k := by unfold Oper.wp; rw [h]; exact k
  skip _ h k := by unfold Oper.wp; rw [h]; exact k
  enter _ h k := by
    unfold Oper.wp; rw [h, Oper.upon_enter]
    refine k.mono fun e w' hw => ?_
    cases e <;> first | exact hw | exact hw.elim
  panic _ h k := by unfold Oper.wp; rw [h, Oper.upon_panic]; exact k
  defer h := h.elim
  round h := h.elim

theorem semAt_eq {r : Option Nat} {o : Oper} {ev : Operand → Value} (h : ∀ c, o.op ≠ .defer c) : o.semAt r ev = execOp ev o := by
  cases r with
  | none => rfl
  | some l => exact Oper.semAt_some l ev o h

def Lg.inn (P : Program) (r : Option Nat) : Lg P True (r = none) where
  W o a w next Q := o.wpIn (fen r) 0 P a w next Q
  val hn h k := ⟨fun _ _ => trivial, by rw [semAt_eq hn, h]; exact k⟩
  skip hn h k := ⟨fun _ _ => trivial, by rw [semAt_eq hn, h]; exact k⟩
  enter hn h k := ⟨fun _ _ => trivial, by
    rw [semAt_eq hn, h, Oper.uponIn_enter]
    refine ⟨fun h => (by cases h), ?_⟩
    have : CallsIn Fence.wide 0 P _ _ _ _ := callsIn_wide.2 (k.mono (R' := fun e w'' => _) fun e w' hw => hw)
    have h2 : CallsIn (fen r) 0 P _ _ _ _ := this
    refine CallsIn.mono h2 fun e w' hw => ?_
    cases e <;> first | exact hw | exact hw.elim⟩
  panic hn h k := ⟨fun _ _ => trivial, by rw [semAt_eq hn, h, Oper.uponIn_panic]; exact k⟩
  defer hd h k := ⟨fun _ _ => trivial, by subst hd; show Oper.uponIn _ _ _ _ _ _ _ ((execOp _ _).run P _); rw [h, Oper.uponIn_defer]; exact k⟩
  round _ hn h k := ⟨fun _ _ => trivial, by
    rw [semAt_eq hn, h, Oper.uponIn_round]
    refine ⟨fun h => (by cases h), ?_⟩
    have h2 : RoundIn (fen r) 0 P _ _ _ _ _ _ _ := k
    refine h2.mono fun e w' hw => ?_
    cases e <;> first | exact hw | exact hw.elim⟩

variable {rnd dfr : Prop} {L : Lg E.P rnd dfr}

theorem wp_of_yield {next : Act → World → Prop} {Q : Exit → Act → World → Prop} {o : Oper} (hn : ∀ c, o.op ≠ .defer c) (hy : Yield E.toTy B o a fs w kv)
    (hv : ∀ s st' ρ' v w', kv s st' → StRel B ρ' st' a fs w' → s.rel (cx B ρ' st'.hp w') v → next (a.put o.dst v) w') : L.W o a w next Q := by
  obtain ⟨n, w', s, st', ρ', v, h1, h2, h3, h4, h5⟩ := hy
  rcases h2 with rfl | ⟨rfl, rfl⟩
  · exact L.val hn h1 (hv _ _ _ _ _ h3 h4 h5)
  · exact L.skip hn h1 (hv _ _ _ _ _ h3 h4 h5)

theorem vcCall_sound (hE : E.Ok gl) (hB : B.gl = gl) (hy : ∀ hd, E.yld = some hd → rnd ∧ YieldOk E.P B fs hd) (h : StRel B ρ st a fs w) {o : Oper} {c : Call} (e : o.op = .call c) (hk : vcCall E st c kv kp) {next : Act → World → Prop} {Q : Exit → Act → World → Prop}
    (hv : ∀ s st' ρ' v w', kv s st' → StRel B ρ' st' a fs w' → s.rel (cx B ρ' st'.hp w') v → next (a.put o.dst v) w')
    (hp : ∀ s st' ρ' v w', kp s st' → StRel B ρ' st' a fs w' → s.rel (cx B ρ' st'.hp w') v → Q (.panic [{ v := v, recovered := false }]) a w') : L.W o a w next Q := by
  have hn : ∀ c', o.op ≠ .defer c' := fun c' h => by rw [e] at h; cases h
  have enter : ∀ (f : Nat) (cs : CallSem) (args : List SV) (vs : List Value), E.fns f = some cs → cs args st kv kp → SV.rels (cx B ρ st.hp w) args vs →
      (execOp a.eval o).run E.P w = (callFunc f vs.toArray).run E.P w → L.W o a w next Q := by
    intro f cs args vs hf hcs hr hrun
    rcases hE.fn f cs hf args st kv kp B ρ a fs w vs hB hcs h hr with ⟨h1, h2⟩ | ⟨v, h1, s, st', ρ', h2, h3, h4⟩
    · refine L.enter hn (hrun.trans h1) (h2.mono fun en w' hw => ?_)
      cases en with
      | returned v => obtain ⟨s, st', ρ', h1, h2, h3⟩ := hw; exact hv _ _ _ _ _ h1 h2 h3
      | panicked ch => obtain ⟨v, s, st', ρ', rfl, h1, h2, h3⟩ := hw; exact hp _ _ _ _ _ h1 h2 h3
      | outgrown => exact hw.elim
    · exact L.val hn (hrun.trans h1) (hv _ _ _ _ _ h2 h3 h4)
  unfold vcCall at hk
  split at hk
  · rename_i hc
    split at hk
    · rename_i s x t t' e1 e2
      split at hk
      · rename_i htt
        subst htt
        have e1 : c.args = #[s, x] := by apply Array.ext'; simpa using e1
        have e2 : c.argTypes = #[t', t'] := by apply Array.ext'; simpa using e2
        split at hk
        · exact hk.elim
        · rename_i hstr
          exact wp_of_yield hn (append_sound hE.ty h e hc e1 e2 (fun l hl => hstr l hl) hk) hv
      · have e1 : c.args = #[s, x] := by apply Array.ext'; simpa using e1
        have e2 : c.argTypes = #[t, t'] := by apply Array.ext'; simpa using e2
        split at hk
        · exact wp_of_yield hn (appStr_sound hE.ty h e hc e1 e2 hk) hv
        · exact wp_of_yield hn (appMk_sound hE.ty h e hc e1 e2 hk) hv
        · exact hk.elim
    · exact hk.elim
  · rename_i hc
    split at hk
    · rename_i x t e1 e2
      have e1 : c.args = #[x] := by apply Array.ext'; simpa using e1
      have e2 : c.argTypes = #[t] := by apply Array.ext'; simpa using e2
      exact wp_of_yield hn (capOf_sound hE h e hc e1 e2 hk) hv
    · exact hk.elim
  · rename_i f hc
    split at hk
    · rename_i cs hf
      refine enter f cs _ (c.args.toList.map a.eval) hf hk (evs_rel h _) ?_
      unfold execOp
      rw [e]
      simp only [resolve, hc, Act.eval, Deferred.ofValue, Sem.run_bind, Sem.run_pure, Result.andThen_ok, invoke]
      rw [show (#[] ++ c.args.map a.eval ++ #[]) = c.args.map a.eval by simp]
      rw [← List.map_toArray, Array.toArray_toList]
    · exact hk.elim
  · rename_i x hnf hc
    split at hk
    · rename_i f cap hx
      have hxr := ev_rel h x
      rw [hx] at hxr
      obtain ⟨cvs, hxe, hcr⟩ := hxr
      split at hk
      · rename_i cs hf
        refine enter f cs _ (c.args.toList.map a.eval ++ cvs) hf hk (rels_append (evs_rel h _) hcr) ?_
        unfold execOp
        rw [e]
        simp only [resolve, hc, hxe, Deferred.ofValue, Sem.run_bind, Sem.run_pure, Result.andThen_ok, invoke]
        rw [show (#[] ++ c.args.map a.eval ++ cvs.toArray) = (c.args.toList.map a.eval ++ cvs).toArray by
          apply Array.ext'
          simp]
      · exact hk.elim
    · rename_i hx
      have hxr := ev_rel h x
      rw [hx] at hxr
      have hxr : a.eval x = .func (.yield B.lp) #[] #[] := hxr
      split at hk
      · rename_i hd hh
        obtain ⟨hr, hyo⟩ := hy hd hh
        obtain ⟨fn, tmps, assign, body, h1, h2⟩ := hyo _ _ _ _ _ a w _ hk h (evs_rel h _)
        refine L.round hr hn (w' := w) (l := B.lp) (f := fn) (tmps := tmps) (assign := assign) (body := body) ?_ (h2.mono fun en w' hw => ?_)
        · unfold execOp
          rw [e]
          simp only [resolve, hc, hxr, Deferred.ofValue, Sem.run_bind, Sem.run_pure, Result.andThen_ok, invoke]
          rw [← h1, show (#[] ++ c.args.map a.eval) = (c.args.toList.map a.eval).toArray by
            apply Array.ext'
            simp]
        · cases en with
          | returned v => obtain ⟨s, st', ρ', h1, h2, h3⟩ := hw; exact hv _ _ _ _ _ h1 h2 h3
          | panicked ch => obtain ⟨v, s, st', ρ', rfl, h1, h2, h3⟩ := hw; exact hp _ _ _ _ _ h1 h2 h3
          | outgrown => exact hw.elim
      · exact hk.elim
    · exact hk.elim
  · exact hk.elim

theorem lookup_mem {t : Nat} {b : Bool} : ∀ {l : List (Nat × Bool)}, l.lookup t = some b → (t, b) ∈ l
  | [], h => by cases h
  | (i, c) :: l, h => by
    by_cases e : t = i
    · subst e
      simp [List.lookup] at h
      subst h
      exact List.mem_cons_self
    · have : (t == i) = false := by simp [e]
      simp only [List.lookup, this] at h
      exact List.mem_cons_of_mem _ (lookup_mem h)

theorem ungate_rel : ∀ (l : List Operand) {st : St}, StRel B ρ st a fs w → (∀ p ∈ (st.ungate l).1, p) → StRel B ρ (st.ungate l).2 a fs w
  | [], st, h, _ => h
  | .const _ :: l, st, h, hp => ungate_rel l h hp
  | .func _ :: l, st, h, hp => ungate_rel l h hp
  | .global _ :: l, st, h, hp => ungate_rel l h hp
  | .tmp t :: l, st, h, hp => by
    simp only [St.ungate] at hp ⊢
    split at hp
    · rename_i p s e
      refine ungate_rel l (st := { st with sl := (t, s) :: st.sl }) ⟨h.h, ⟨h.s.1, fun i s' hs => ?_⟩, h.kn, h.k, h.d, h.g⟩ (fun q hq => hp q (List.mem_cons_of_mem _ hq))
      simp only at hs
      rw [lookup_cons] at hs
      split at hs
      · rename_i ei
        cases hs
        subst ei
        obtain ⟨h1, h2⟩ := h.s.2 i _ e
        exact ⟨h1, h2.1 (hp _ List.mem_cons_self)⟩
      · exact h.s.2 i s' hs
    · exact ungate_rel l h hp

theorem vcOp'_sound (hE : E.Ok gl) (hB : B.gl = gl) (hy : ∀ hd, E.yld = some hd → rnd ∧ YieldOk E.P B fs hd) (h : StRel B ρ st a fs w) {o : Oper} (hk : vcOp' E st o kv kp) {next : Act → World → Prop} {Q : Exit → Act → World → Prop}
    (hv : ∀ s st' ρ' v w', kv s st' → StRel B ρ' st' a fs w' → s.rel (cx B ρ' st'.hp w') v → next (a.put o.dst v) w')
    (hp : ∀ s st' ρ' v w', kp s st' → StRel B ρ' st' a fs w' → s.rel (cx B ρ' st'.hp w') v → Q (.panic [{ v := v, recovered := false }]) a w') : L.W o a w next Q := by
  unfold vcOp' at hk
  split at hk
  · rename_i t x e; exact wp_of_yield (fun c h => by rw [e] at h; cases h) (box_sound h e hk) hv
  · rename_i t e; exact wp_of_yield (fun c h => by rw [e] at h; cases h) (alloc_sound hE.ty h e hk) hv
  · rename_i t parts e; exact wp_of_yield (fun c h => by rw [e] at h; cases h) (build_sound hE.ty h e hk) hv
  · rename_i t n parts e; exact wp_of_yield (fun c h => by rw [e] at h; cases h) (buildSlice_sound hE.ty h e hk) hv
  · rename_i t ad x e
    obtain ⟨h2, h3⟩ := conj_all hk
    obtain ⟨h4, h5⟩ := conj_all h3
    exact wp_of_yield (fun c h => by rw [e] at h; cases h) (store_sound hE.ty h e (g_rel h ad h2) (g_rel h x h4) h5) hv
  · rename_i c x y e
    split at hk
    · rename_i b hb
      have hc := ev_rel h c
      rw [hb] at hc
      have hc := VRep_bool.1 hc
      have hrun : (execOp a.eval o).run E.P w = .ok (.value (if b then a.eval x else a.eval y)) w := by
        unfold execOp
        rw [e]
        simp only [hc]
        rfl
      refine L.val (fun c h => by rw [e] at h; cases h) hrun ?_
      cases b with
      | true =>
        obtain ⟨h1, h2⟩ := conj_all (hk.1 rfl)
        exact hv _ _ _ _ _ h2 h (g_rel h x h1)
      | false =>
        obtain ⟨h1, h2⟩ := conj_all (hk.2 rfl)
        exact hv _ _ _ _ _ h2 h (g_rel h y h1)
    · exact hk.elim
  · rename_i src dst x e
    split at hk
    · exact wp_of_yield (fun c h => by rw [e] at h; cases h) (toRow_sound hE h e hk) hv
    · exact wp_of_yield (fun c h => by rw [e] at h; cases h) (toBytes_sound hE h e hk) hv
  · rename_i t l c e; exact wp_of_yield (fun c h => by rw [e] at h; cases h) (make_sound hE.ty h e hk) hv
  · rename_i op ty x y yt e; exact wp_of_yield (fun c h => by rw [e] at h; cases h) (eqNil_sound hE h e hk) hv
  · rename_i x e
    split at hk
    · rename_i t s hx
      have hxr := ev_rel h x
      rw [hx] at hxr
      have hxr' := hxr
      obtain ⟨u, hu, _⟩ := hxr
      have hrun : (execOp a.eval o).run E.P w = .halt (.panic (a.eval x)) w := by
        unfold execOp
        rw [e]
        dsimp only
        rw [hu]
        rfl
      exact L.panic (fun c h => by rw [e] at h; cases h) hrun (hp _ _ _ _ _ hk h hxr')
    · exact hk.elim
  · rename_i c e; exact vcCall_sound hE hB hy h e hk hv hp
  · rename_i t x e; exact wp_of_yield (fun c h => by rw [e] at h; cases h) (range_sound hE h e hk) hv
  · rename_i x e; exact wp_of_yield (fun c h => by rw [e] at h; cases h) (next_sound h e hk) hv
  · exact hk.elim

theorem op1_nd {E : Ty} {o : Oper} {r : List Prop × SV} (h : st.op1 E o = some r) : ∀ c, o.op ≠ .defer c := by
  intro c e
  unfold St.op1 at h
  rw [e] at h
  cases h

theorem picked_nd {o : Op} {r : Operand} (h : st.picked o = some r) : ∀ c, o ≠ .defer c := by
  intro c e
  rw [e] at h
  cases h

theorem vcOp_sound (hE : E.Ok gl) (hB : B.gl = gl) (hy : ∀ hd, E.yld = some hd → rnd ∧ YieldOk E.P B fs hd) (h : StRel B ρ st a fs w) {o : Oper} (hk : vcOp E st o kv kp) {next : Act → World → Prop} {Q : Exit → Act → World → Prop}
    (hv : ∀ s st' ρ' v w', kv s st' → StRel B ρ' st' a fs w' → s.rel (cx B ρ' st'.hp w') v → next (a.put o.dst v) w')
    (hp : ∀ s st' ρ' v w', kp s st' → StRel B ρ' st' a fs w' → s.rel (cx B ρ' st'.hp w') v → Q (.panic [{ v := v, recovered := false }]) a w') : L.W o a w next Q := by
  unfold vcOp at hk
  split at hk
  · rename_i x e
    obtain ⟨h1, h2⟩ := conj_all hk
    have hrun : (execOp a.eval o).run E.P w = .ok (.value (a.eval x)) w := by
      unfold St.picked at e
      split at e
      · rename_i t x' y' eo
        split at e
        · rename_i ek
          cases e
          have := (h.kn t true (lookup_mem ek)).2
          unfold execOp
          rw [eo]
          simp only [Act.eval, this]
          rfl
        · rename_i ek
          cases e
          have := (h.kn t false (lookup_mem ek)).2
          unfold execOp
          rw [eo]
          simp only [Act.eval, this]
          rfl
        · cases e
      · cases e
    exact L.val (picked_nd e) hrun (hv _ _ _ _ _ h2 h (g_rel h x h1))
  · split at hk
    · rename_i obs s h1
      obtain ⟨h2, h3⟩ := conj_all hk
      obtain ⟨v, h4, h5⟩ := op1_sound hE.ty h h1 h2
      exact L.val (op1_nd h1) h4 (hv _ _ _ _ _ h3 h h5)
    · obtain ⟨h2, h3⟩ := conj_all hk
      exact vcOp'_sound hE hB hy (ungate_rel _ h h2) h3 hv hp
end
end Go.Vc
end
section
/- Operations whose value hangs on no world. -/
namespace Go.Vc
open Go.RowKit

/-- It yields the same in every world and leaves that alone, or it never yields. -/
def Free (P : Program) {α : Type} (m : Sem α) : Prop := (∃ v, ∀ w, m.run P w = .ok v w) ∨ ∀ w v w', m.run P w ≠ .ok v w'

section
variable {P : Program} {α β : Type}

theorem Free.pure (v : α) : Free P (Pure.pure v : Sem α) := .inl ⟨v, fun _ => rfl⟩
theorem Free.bind {m : Sem α} {f : α → Sem β} (hm : Free P m) (hf : ∀ v, Free P (f v)) : Free P (m >>= f) := by
  rcases hm with ⟨v, hv⟩ | hn
  · rcases hf v with ⟨u, hu⟩ | hn
    · exact .inl ⟨u, fun w => by rw [Sem.run_bind, hv w, Result.andThen_ok, hu w]⟩
    · exact .inr fun w u w' => by rw [Sem.run_bind, hv w, Result.andThen_ok]; exact hn w u w'
  · refine .inr fun w u w' => ?_
    rw [Sem.run_bind]
    cases h : m.run P w with
    | ok v w2 => exact absurd h (hn w v w2)
    | halt x w2 => intro hc; cases hc
theorem Free.stuck (s : String) : Free P (stuck s : Sem α) := .inr fun w v w' h => by cases h
theorem Free.unsupported (u : Unsupported) : Free P (unsupported u : Sem α) := .inr fun w v w' h => by cases h
theorem Free.program : Free P program := .inl ⟨P, fun _ => rfl⟩
theorem Free.underlying (t : TypeId) : Free P (underlying t) := by
  unfold Go.underlying
  refine Free.program.bind fun p => ?_
  split
  · exact .pure _
  · exact .stuck _
theorem Free.sizeOf (t : TypeId) : Free P (sizeOf t) := by
  unfold Go.sizeOf Go.typeInfo
  refine Free.bind (Free.program.bind fun p => ?_) fun i => .pure _
  split
  · exact .pure _
  · exact .stuck _
theorem Free.asIntOf (v : Value) : Free P (asIntOf v) := by
  unfold Go.asIntOf
  split
  · exact .pure _
  · exact .unsupported _
  · exact .stuck _
theorem Free.sureAddr (v : Value) : Free P (Instr.sureAddr v) := by
  unfold Instr.sureAddr
  split
  · exact .pure _
  · exact .stuck _
theorem never_bind {m : Sem α} {f : α → Sem β} (hf : ∀ v w u w', (f v).run P w ≠ .ok u w') : Free P (m >>= f) := .inr fun w u w' => by
  rw [Sem.run_bind]
  cases h : m.run P w with
  | ok v w2 => exact hf v w2 u w'
  | halt x w2 => intro hc; cases hc
theorem never_goPanic (v : Value) (w : World) (u : α) (w' : World) : (goPanic v : Sem α).run P w ≠ .ok u w' := by
  intro h
  cases h
theorem never_runtimePanic_bounds (x y : Int) (s : Bool) (c : BoundsCode) (w : World) (u : α) (w' : World) : (runtimePanic (.bounds x y s c) : Sem α).run P w ≠ .ok u w' := by
  unfold Go.runtimePanic
  rw [Sem.run_bind, run_program, Result.andThen_ok]
  exact never_goPanic _ _ _ _
theorem Free.boundsPanic (k : IntKind) (x y : Int) (c : BoundsCode) : Free P (boundsPanic k x y c : Sem α) := by
  unfold Go.boundsPanic
  dsimp only
  split
  · exact never_bind fun s w u w' => never_runtimePanic_bounds _ _ _ _ _ _ _
  · exact never_bind fun s w u w' => never_runtimePanic_bounds _ _ _ _ _ _ _

theorem Free.place (t : TypeId) (base : Option Addr) (len : Nat) (elem : TypeId) (k : IntKind) (i : Int) : Free P (do
    let tiny := len ≤ 1 && (match ← Go.underlying t with | .array .. => true | _ => false)
    match base with
    | some a =>
      if 0 ≤ i ∧ i < len then Pure.pure (Value.pointer (some (a.add (i.toNat * (← Go.sizeOf elem)))))
      else if tiny then Go.unsupported (.noEntry "op/indexAddr.an index out of range at an array of length 0 or 1 (ledger 616)")
      else Go.boundsPanic k i len .index
    | none => Go.boundsPanic k i 0 .index : Sem Value) := by
  refine (Free.underlying t).bind fun d => ?_
  dsimp only
  split
  · split
    · exact (Free.sizeOf _).bind fun s => .pure _
    · split <;> split
      · exact .unsupported _
      · exact .boundsPanic _ _ _ _
      · exact .unsupported _
      · exact .boundsPanic _ _ _ _
  · exact .boundsPanic _ _ _ _

theorem Free.indexAt (t : TypeId) (x i : Value) : Free P (Instr.indexAt t x i) := by
  unfold Instr.indexAt
  refine (Free.asIntOf i).bind fun ki => ?_
  obtain ⟨k, j⟩ := ki
  refine (Free.underlying t).bind fun d => ?_
  dsimp only
  split
  · refine Free.bind (Free.sureAddr _) fun a => Free.bind (.pure _) fun r => ?_
    obtain ⟨b, l, e⟩ := r
    exact Free.place t b l e k j
  · exact Free.place t _ _ _ k j
  · exact Free.bind (.stuck _) fun r => Free.place t _ _ _ k j
end

theorem Free.fieldAt {E : Ty} (hE : E.Ok) {t f ft off z : Nat} (e1 : fieldOf E t f = some (ft, off)) (hz : E.sz ft = some (z + 1)) (v : Value) : Free E.P (Instr.fieldAt t v f) := by
  obtain ⟨fields, h1, g, h2, h3, h4⟩ := field_of hE e1
  obtain ⟨inf, hi, hsz, _⟩ := hE.sz hz
  have run : ∀ w, (Instr.fieldAt t v f).run E.P w = (Instr.sureAddr v >>= fun a => Pure.pure (Value.pointer (some (a.add off)))).run E.P w := by
    intro w
    simp only [Instr.fieldAt, Sem.run_bind, run_underlying h1, Result.andThen_ok, h2]
    congr 1
    funext a w'
    simp only [Sem.run_bind, Sem.run_pure, fieldPlace, h3, run_sizeOf hi, hsz, h4, Result.andThen_ok]
    simp
  have fr : Free E.P (Instr.sureAddr v >>= fun a => Pure.pure (Value.pointer (some (a.add off)))) := (Free.sureAddr v).bind fun a => .pure _
  rcases fr with ⟨u, hu⟩ | hn
  · exact .inl ⟨u, fun w => by rw [run, hu w]⟩
  · exact .inr fun w u w' => by rw [run]; exact hn w u w'

/-- Operations that may be taken ahead of the others. -/
def pureOp (E : Ty) (o : Oper) : Bool :=
  match o.op with
  | .indexAddr .. => true
  | .fieldAddr t _ f => match fieldOf E t f with
    | some (ft, _) => match E.sz ft with
      | some (_ + 1) => true
      | _ => false
    | none => false
  | _ => false

theorem Free.value {P : Program} {m : Sem Value} (h : Free P m) : (∃ v, ∀ w, (do Pure.pure (Next.value (← m)) : Sem Next).run P w = .ok (.value v) w) ∨ ∀ w n w', (do Pure.pure (Next.value (← m)) : Sem Next).run P w ≠ .ok n w' := by
  rcases h with ⟨v, hv⟩ | hn
  · exact .inl ⟨v, fun w => by rw [Sem.run_bind, hv w, Result.andThen_ok]; rfl⟩
  · refine .inr fun w n w' => ?_
    rw [Sem.run_bind]
    cases h : m.run P w with
    | ok v w2 => exact absurd h (hn w v w2)
    | halt x w2 => intro hc; cases hc

theorem pureOp_free {E : Ty} (hE : E.Ok) {o : Oper} (h : pureOp E o = true) (ρ : Operand → Value) : (∃ v, ∀ w, (execOp ρ o).run E.P w = .ok (.value v) w) ∨ ∀ w n w', (execOp ρ o).run E.P w ≠ .ok n w' := by
  unfold pureOp at h
  split at h
  · rename_i t x i e
    unfold execOp
    rw [e]
    exact (Free.indexAt t _ _).value
  · rename_i t x f e
    unfold execOp
    rw [e]
    split at h
    · rename_i ft off e1
      split at h
      · rename_i z e2
        exact (Free.fieldAt hE e1 e2 _).value
      · cases h
    · cases h
  · cases h

/-! ### Operations on integers -/
def okInt : BinOp → Bool
  | .add | .sub | .mul | .eql | .neq | .lss | .leq | .gtr | .geq => true
  | _ => false
def pureIntG (E : Ty) (o : Oper) : Bool :=
  match o.op with
  | .binOp op t _ _ _ => okInt op && (match E.d t with | .int _ => true | _ => false)
  | .convert s d _ => match E.d s, E.d d with
    | .int _, .int _ => true
    | _, _ => false
  | _ => false
def pureInt (E : Ty) (o : Oper) : Bool := o.guard.isNone && pureIntG E o
def isInt : SV → Bool
  | .dat (.int _) _ => true
  | .cst (.int _ _) => true
  | _ => false
def intArgs (st : St) (o : Oper) : Bool :=
  match o.op with
  | .binOp _ _ x y _ => isInt (st.ev x) && isInt (st.ev y)
  | .convert _ _ x => isInt (st.ev x)
  | _ => false
theorem isInt_rel {C : Cx} {s : SV} {v : Value} (h : isInt s = true) (hr : s.rel C v) : ∃ k n, v = .int k n := by
  unfold isInt at h
  split at h
  · exact ⟨_, _, (VRep_int.1 hr).1⟩
  · exact ⟨_, _, hr⟩
  · cases h
theorem Free.eqGuardInt {P : Program} (op : BinOp) (t : TypeId) (x y : Operand) (k k' : IntKind) (n m : Int) : Free P (eqGuard op t x y (.int k n) (.int k' m)) := by
  unfold Go.eqGuard
  cases op <;> exact .pure _
theorem Free.binInt {P : Program} {op : BinOp} (h : okInt op = true) (t : TypeId) (k k' : IntKind) (n m : Int) : Free P (binOp op t (.int k n) (.int k' m)) := by
  cases op <;> simp only [okInt, Bool.false_eq_true] at h <;> unfold Go.binOp <;> dsimp only <;> split <;> first | exact Free.stuck _ | exact Free.pure _
theorem pureInt_free {E : Ty} (hE : E.Ok) {o : Oper} (h : pureInt E o = true) {B : Base} {ρ : Nat → Value} {st : St} {a : Act} {fs : List Act} {w : World} (hr : StRel B ρ st a fs w) (hi : intArgs st o = true) :
    (∃ v, ∀ w, (execOp a.eval o).run E.P w = .ok (.value v) w) ∨ ∀ w n w', (execOp a.eval o).run E.P w ≠ .ok n w' := by
  unfold pureInt at h
  rw [Bool.and_eq_true] at h
  have h := h.2
  unfold pureIntG at h
  unfold intArgs at hi
  split at h
  · rename_i op t x y z e
    rw [e] at hi
    simp only [Bool.and_eq_true] at h hi
    obtain ⟨k, n, hx⟩ := isInt_rel hi.1 (ev_rel hr x)
    obtain ⟨k', m, hy⟩ := isInt_rel hi.2 (ev_rel hr y)
    unfold execOp
    rw [e]
    simp only [hx, hy]
    exact (Free.bind (Free.eqGuardInt op t x y k k' n m) fun _ => Free.binInt h.1 t k k' n m).value
  · rename_i s d x e
    rw [e] at hi
    simp only at hi
    obtain ⟨k, n, hx⟩ := isInt_rel hi (ev_rel hr x)
    split at h
    · rename_i k1 k2 e1 e2
      have hs := hE.d s
      rw [e1] at hs
      have hd := hE.d d
      rw [e2] at hd
      unfold execOp
      rw [e]
      simp only [hx]
      have hs : E.P.underlying s = some (.int k1) := hs
      have hd : E.P.underlying d = some (.int k2) := hd
      refine Free.value (.inl ⟨.int k2 (k2.wrap n), fun w => ?_⟩)
      simp only [Go.convert, Sem.run_bind, run_underlying hs, run_underlying hd, Result.andThen_ok]
      rfl
    · cases h
  · cases h
end Go.Vc
end
section
/- Regions and code. -/
namespace Go.Vc
open Go.RowKit

def St.setK (st : St) (d : Option Nat) (s : SV) (k : St → Prop) : Prop :=
  match d with
  | none => k st
  | some i => if i < st.n then k (st.set (some i) s) else False

/-- A value under a condition; one condition where there are two. -/
def mkGd (p : Bool) : SV → SV
  | .gd q s => .gd (p && q) s
  | s => .gd p s
theorem mkGd_rel {C : Cx} {p : Bool} {s : SV} {v : Value} (h : (SV.gd p s).rel C v) : (mkGd p s).rel C v := by
  unfold mkGd
  split
  · rename_i q s'
    obtain ⟨h1, h2⟩ := h
    cases p with
    | true => obtain ⟨h3, h4⟩ := h1 rfl; exact ⟨fun hq => h3 (by simpa using hq), fun hq => h4 (by simpa using hq)⟩
    | false => exact ⟨fun hq => (by cases hq), fun _ => h2 rfl⟩
  · exact h

/-- A slot that was skipped. -/
def St.skipped (st : St) (g : Nat) : St := { st with sl := (g, .cst undef) :: st.sl }

def vcOps (E : Env) (ops : Array Oper) : List Oper → St → (St → Prop) → (SV → St → Prop) → Prop
  | [], st, kn, _ => kn st
  | o :: rest, st, kn, kp =>
    match o.guard with
    | none => match st.defr E o with
      | some st1 => st1.setK o.dst .junk fun st'' => vcOps E ops rest st'' kn kp
      | none => vcOp E st o (fun s st' => st'.setK o.dst s fun st'' => vcOps E ops rest st'' kn kp) kp
    | some (j, want) => match (ops[j]?).bind (·.dst) with
      | none => False
      | some g => match st.kn.lookup g with
        | some b => if b = want then vcOp E st o (fun s st' => st'.setK o.dst s fun st'' => vcOps E ops rest st'' kn kp) kp
                    else st.setK o.dst (.cst undef) fun st'' => vcOps E ops rest st'' kn kp
        | none => match st.sl.lookup g with
          | some (.cst (.bool b)) => if b = want then vcOp E st o (fun s st' => st'.setK o.dst s fun st'' => vcOps E ops rest st'' kn kp) kp
                    else st.setK o.dst (.cst undef) fun st'' => vcOps E ops rest st'' kn kp
          | some (.cst (.tuple _)) => st.setK o.dst (.cst undef) fun st'' => vcOps E ops rest st'' kn kp
          | some (.dat .bool b) => match st.op1 E.toTy o with
            | some (obs, s) => (b = want → conj obs True) ∧ st.setK o.dst (mkGd (b == want) s) fun st'' => vcOps E ops rest st'' kn kp
            | none => (b = want → vcOp E (st.know g want) o (fun s st' => st'.setK o.dst s fun st'' => vcOps E ops rest st'' kn kp) kp) ∧
                (b = !want → (st.know g (!want)).setK o.dst (.cst undef) fun st'' => vcOps E ops rest st'' kn kp)
          | some (.gd p (.dat .bool b)) => match st.op1 E.toTy o with
            | some (obs, s) => (p = true → b = want → conj obs True) ∧ st.setK o.dst (mkGd (p && (b == want)) s) fun st'' => vcOps E ops rest st'' kn kp
            | none => (p = true → b = want → vcOp E (st.know g want) o (fun s st' => st'.setK o.dst s fun st'' => vcOps E ops rest st'' kn kp) kp) ∧
                (p = true → b = !want → (st.know g (!want)).setK o.dst (.cst undef) fun st'' => vcOps E ops rest st'' kn kp) ∧
                (p = false → (st.skipped g).setK o.dst (.cst undef) fun st'' => vcOps E ops rest st'' kn kp)
          | _ => False

/-- Operations that change nothing, whatever their order. -/
def vcStill (E : Env) : List Oper → St → (St → Prop) → Prop
  | [], st, k => k st
  | o :: rest, st, k => match o.guard, st.op1 E.toTy o with
    | none, some (obs, s) => conj obs (st.setK o.dst s fun st' => vcStill E rest st' k)
    | _, _ => False

def vcStillG (E : Env) (ops : Array Oper) : List Oper → St → (St → Prop) → Prop
  | [], st, k => k st
  | o :: rest, st, k =>
    match o.guard with
    | none => match st.op1 E.toTy o with
      | some (obs, s) => conj obs (st.setK o.dst s fun st' => vcStillG E ops rest st' k)
      | none => False
    | some (j, want) => match (ops[j]?).bind (·.dst) with
      | none => False
      | some g => match st.sl.lookup g with
        | some (.cst (.bool b)) => if b = want then
            match st.op1 E.toTy o with
            | some (obs, s) => conj obs (st.setK o.dst s fun st' => vcStillG E ops rest st' k)
            | none => False
          else st.setK o.dst (.cst undef) fun st' => vcStillG E ops rest st' k
        | some (.cst (.tuple _)) => st.setK o.dst (.cst undef) fun st' => vcStillG E ops rest st' k
        | some (.dat .bool b) => match st.op1 E.toTy o with
          | some (obs, s) => (b = want → conj obs True) ∧ st.setK o.dst (mkGd (b == want) s) fun st' => vcStillG E ops rest st' k
          | none => False
        | some (.gd p (.dat .bool b)) => match st.op1 E.toTy o with
          | some (obs, s) => (p = true → b = want → conj obs True) ∧ st.setK o.dst (mkGd (p && (b == want)) s) fun st' => vcStillG E ops rest st' k
          | none => False
        | _ => False

def stillKind : Op → Bool
  | .pick .. | .move _ | .assign _ | .binOp .. | .unOp .. | .convert .. | .load .. | .indexAddr .. | .index .. | .slice .. | .field .. | .fieldAddr .. | .nilCheck _ | .extract .. | .makeFunc .. | .makeInterface .. => true
  | .call c => match c.callee with
    | .builtin .len | .builtin .min | .builtin .max => true
    | _ => false
  | _ => false

def firstLoud : List Oper → Nat
  | [] => 0
  | o :: l => if stillKind o.op then firstLoud l + 1 else 0

def isDefer : Op → Bool
  | .defer _ => true
  | _ => false

/-- The orders that a region may draw: what is sure goes first. -/
inductive OT where
  | nil
  | bad
  | done
  | mv (i : Nat) (t : OT)
  | pu (i : Nat) (t : OT)
  | one (i : Nat) (t : OT)
  | both (s t : OT)

def plainMove (o : Oper) : Option Operand :=
  match o.op with
  | .move x => some x
  | .assign x => some x
  | _ => none

/-- What a move under a guard yields. -/
def St.guarded (st : St) (ops : Array Oper) (o : Oper) (s : SV) : Option SV :=
  match o.guard with
  | none => some s
  | some (j, want) => match (ops[j]?).bind (·.dst) with
    | none => none
    | some g => match st.sl.lookup g with
      | some (.cst (.bool b)) => some (if b = want then s else .cst undef)
      | some (.cst (.tuple _)) => some (.cst undef)
      | some (.dat .bool b) => some (mkGd (b == want) s)
      | some (.gd p (.dat .bool b)) => some (mkGd (p && (b == want)) s)
      | _ => none

def orders (pu : Oper → Bool) (ops : Array Oper) : Nat → Array Bool → OT
  | 0, listed => if (Region.ready .any ops listed).isEmpty then .done else .bad
  | f + 1, listed =>
    if (Region.ready .any ops listed).isEmpty then .done else
    match (Region.ready .any ops listed).find? fun i => ((ops[i]?).bind plainMove).isSome && Region.free .any ops listed i with
    | some i => .mv i (orders pu ops f (listed.setIfInBounds i true))
    | none => match (Region.ready .any ops listed).find? fun i => ((ops[i]?).elim false pu) && Region.free .any ops listed i with
      | some i => .pu i (orders pu ops f (listed.setIfInBounds i true))
      | none => (Region.ready .any ops listed).foldr (fun i t => .both (.one i (orders pu ops f (listed.setIfInBounds i true))) t) .nil

/-- A mark among a walk's own slots: operations on integers are taken ahead of others, too. -/
def EAGER : Nat := 1000000
def puOf (E : Env) (o : Oper) : Bool := pureOp E.toTy o || (E.own.contains EAGER && pureInt E.toTy o)
/-- Operations whose order is drawn. -/
def vcAny (E : Env) (ops : Array Oper) : OT → St → (St → Prop) → Prop
  | .nil, _, _ => True
  | .bad, _, _ => False
  | .done, st, kn => kn st
  | .mv i t, st, kn => match ops[i]? with
    | some o => match plainMove o with
      | some x => match st.guarded ops o (st.ev x) with
        | some s => st.setK o.dst s fun st' => vcAny E ops t st' kn
        | none => False
      | none => False
    | none => False
  | .pu i t, st, kn => match ops[i]? with
    | some o => if pureOp E.toTy o || (E.own.contains EAGER && pureInt E.toTy o && intArgs st o) then vcStillG E ops [o] st (fun st' => vcAny E ops t st' kn) else False
    | none => False
  | .one i t, st, kn => match ops[i]? with
    | some o => vcOps E ops [o] st (fun st' => vcAny E ops t st' kn) (fun _ _ => False)
    | none => False
  | .both s t, st, kn => vcAny E ops s st kn ∧ vcAny E ops t st kn

def vcDraw (E : Env) (ops : Array Oper) (st : St) (kn : St → Prop) (kp : SV → St → Prop) : Prop :=
  if ops.toList.any (fun o => isDefer o.op) then False else
  let n := min (firstLoud ops.toList) (ops.size - 1)
  if Region.lexTailB .any ops n then vcStillG E ops (ops.toList.take n) st fun st' => vcOps { E with yld := none, rnd := true } ops (ops.toList.drop n) st' kn kp
  else if Region.lexB .any ops && ops.toList.all (fun o => stillKind o.op) then vcStillG E ops ops.toList st kn
  else if Region.noSelect ops then vcAny { E with yld := none, rnd := true } ops (orders (puOf E) ops ops.size (Array.replicate ops.size false)) st kn
  else False

/-- Slots that are kept behind a region: those that are named, the newest each. -/
def trimSl (keep : List Nat) : List Nat → Slots → Slots
  | _, [] => []
  | seen, (i, s) :: r => if seen.contains i || !keep.contains i then trimSl keep seen r else (i, s) :: trimSl keep (i :: seen) r

def St.trim (st : St) (keep : List Nat) : St := { st with sl := trimSl keep [] st.sl, kn := st.kn.filter fun p => keep.contains p.1 }

section
variable {E : Env} {gl : Gl} {B : Base} {ρ : Nat → Value} {st : St} {a : Act} {fs : List Act} {w : World} {kv kp : SV → St → Prop}

theorem trim_lookup (keep : List Nat) : ∀ (sl : Slots) (seen : List Nat) (i : Nat) (s : SV), (trimSl keep seen sl).lookup i = some s → i ∉ seen ∧ sl.lookup i = some s
  | [], _, _, _, h => by cases h
  | (j, t) :: r, seen, i, s, h => by
    simp only [trimSl] at h
    split at h
    · rename_i hc
      obtain ⟨h1, h2⟩ := trim_lookup keep r seen i s h
      refine ⟨h1, ?_⟩
      rw [lookup_cons]
      split
      · rename_i e
        subst e
        simp only [Bool.or_eq_true, Bool.not_eq_true', List.contains_eq_mem, decide_eq_true_eq] at hc
        rcases hc with hc | hc
        · exact absurd hc h1
        · -- not kept: nothing of this name is left
          exfalso
          have : ∀ (r : Slots) (seen : List Nat), (trimSl keep seen r).lookup i = none := by
            intro r
            induction r with
            | nil => intro _; rfl
            | cons p r ih =>
              intro seen
              obtain ⟨q, u⟩ := p
              simp only [trimSl]
              split
              · exact ih _
              · rename_i hq
                rw [lookup_cons, if_neg, ih]
                rintro rfl
                simp only [Bool.or_eq_true, Bool.not_eq_true', not_or, List.contains_eq_mem, Bool.not_eq_false] at hq
                simp_all
          rw [this] at h
          cases h
      · exact h2
    · rw [lookup_cons] at h
      split at h
      · rename_i hc e
        cases h
        subst e
        refine ⟨?_, by rw [lookup_cons, if_pos rfl]⟩
        intro hm
        simp only [Bool.or_eq_true, not_or, List.contains_eq_mem] at hc
        simp_all
      · rename_i hc e
        obtain ⟨h1, h2⟩ := trim_lookup keep r (j :: seen) i s h
        exact ⟨fun hm => h1 (List.mem_cons_of_mem _ hm), by rw [lookup_cons, if_neg e]; exact h2⟩

theorem StRel.skipped (h : StRel B ρ st a fs w) {g : Nat} (hg : g < st.n) (hv : a.tmps.getD g undef = undef) : StRel B ρ (st.skipped g) a fs w :=
  ⟨h.h, ⟨h.s.1, fun i s hs => by
    simp only [St.skipped] at hs
    rw [lookup_cons] at hs
    split at hs
    · rename_i e; cases hs; subst e; exact ⟨hg, hv⟩
    · exact h.s.2 i s hs⟩, h.kn, h.k, h.d, h.g⟩

theorem StRel.trim (h : StRel B ρ st a fs w) (keep : List Nat) : StRel B ρ (st.trim keep) a fs w :=
  ⟨h.h, ⟨h.s.1, fun i s hs => h.s.2 i s (trim_lookup keep st.sl [] i s hs).2⟩, fun t b hb => h.kn t b (List.mem_filter.1 hb).1, h.k, h.d, h.g⟩

theorem setK_sound {d : Option Nat} {s : SV} {k : St → Prop} {v : Value} (hk : st.setK d s k) (h : StRel B ρ st a fs w) (hv : s.rel (cx B ρ st.hp w) v) : ∃ st', k st' ∧ StRel B ρ st' (a.put d v) fs w := by
  unfold St.setK at hk
  cases d with
  | none => exact ⟨st, hk, h⟩
  | some i =>
    simp only at hk
    split at hk
    · rename_i hi
      exact ⟨_, hk, h.put (fun j hj => by cases hj; exact hi) hv⟩
    · exact hk.elim

theorem put_tmps_size (a : Act) (d : Option Nat) (v : Value) : (a.put d v).tmps.size = a.tmps.size := by
  cases d <;> simp [Act.put]
theorem put_defers (a : Act) (d : Option Nat) (v : Value) : (a.put d v).defers = a.defers := by
  cases d <;> rfl

/-- A list of operations, in a logic. -/
def gList {P : Program} {rnd dfr : Prop} (L : Lg P rnd dfr) (ops : Array Oper) (Q : Exit → Act → World → Prop) : List Oper → Act → World → Prop
  | [], a, w => Q .normal a w
  | o :: rest, a, w => if Region.wanted o (yielded ops a.tmps) then L.W o a w (gList L ops Q rest) Q else gList L ops Q rest (a.put o.dst undef) w

theorem gList_plain {P : Program} {ops : Array Oper} {Q : Exit → Act → World → Prop} : ∀ {l : List Oper} {a : Act} {w : World}, gList (Lg.plain P) ops Q l a w → wpList P ops Q l a w
  | [], _, _, h => h
  | o :: rest, a, w, h => by
    unfold gList at h
    unfold wpList
    split
    · rename_i hw
      rw [if_pos hw] at h
      have e : gList (Lg.plain P) ops Q rest = fun a w => gList (Lg.plain P) ops Q rest a w := rfl
      refine .inl (Oper.wp_mono (fun a w hh => gList_plain hh) h)
    · rename_i hw
      rw [if_neg hw] at h
      exact gList_plain h

theorem uponIn_mono {P : Program} {r : Option Nat} {o : Oper} {a : Act} {next next' : Act → World → Prop} {Q : Exit → Act → World → Prop} {res : Result Next} (hn : ∀ a w, next a w → next' a w) (h : o.uponIn (fen r) 0 P a next Q res) : o.uponIn (fen r) 0 P a next' Q res := by
  unfold Oper.uponIn at h
  split at h
  · exact hn _ _ h
  · exact hn _ _ h
  · exact hn _ _ h
  · refine ⟨h.1, CallsIn.mono h.2 fun e w' hw => ?_⟩
    cases e <;> first | exact hn _ _ hw | exact hw
  · exact ⟨h.1, RowsIn.mono h.2 fun v w' hw => hn _ _ hw⟩
  · refine ⟨h.1, RoundIn.mono h.2 fun e w' hw => ?_⟩
    cases e <;> first | exact hn _ _ hw | exact hw
  · exact h
  · exact h.elim

theorem gList_inn {P : Program} {r : Option Nat} {ops : Array Oper} {Q : Exit → Act → World → Prop} : ∀ {l : List Oper} {a : Act} {w : World}, gList (Lg.inn P r) ops Q l a w → wpListIn (fen r) 0 P ops Q l a w
  | [], _, _, h => h
  | o :: rest, a, w, h => by
    unfold gList at h
    unfold wpListIn
    split
    · rename_i hw
      rw [if_pos hw] at h
      exact ⟨h.1, uponIn_mono (fun a w hh => gList_inn hh) h.2⟩
    · rename_i hw
      rw [if_neg hw] at h
      exact ⟨fun _ _ => trivial, gList_inn h⟩

variable {rnd dfr : Prop} {L : Lg E.P rnd dfr}

theorem defr_sound {o : Oper} {st1 : St} (hd : E.rnd = false → dfr) (hdf : st.defr E o = some st1) (h : StRel B ρ st a fs w) {next : Act → World → Prop} {Q : Exit → Act → World → Prop}
    (hv : ∀ a', StRel B ρ st1 a' fs w → next (a'.put o.dst undef) w) : L.W o a w next Q := by
  unfold St.defr at hdf
  split at hdf
  · rename_i c e
    split at hdf
    · cases hdf
    · rename_i hr
      split at hdf
      · rename_i x hc ha
        split at hdf
        · rename_i f cap hx
          cases hdf
          have hxr := ev_rel h x
          rw [hx] at hxr
          obtain ⟨vs, hxe, hcr⟩ := hxr
          have ha : c.args = #[] := by apply Array.ext'; simpa using ha
          refine L.defer (hd (by simpa using hr)) (d := { target := .fn (.func f) vs.toArray, args := #[] }) (w' := w) ?_ (hv _ ⟨h.h, h.s, h.kn, h.k, ⟨vs, _, rfl, hcr, h.d⟩, h.g⟩)
          unfold execOp
          rw [e]
          simp [resolve, hc, ha, hxe, Deferred.ofValue]
        · cases hdf
      · cases hdf
  · cases hdf

theorem vcOps_sound (hE : E.Ok gl) (hB : B.gl = gl) (hy : ∀ hd, E.yld = some hd → rnd ∧ YieldOk E.P B fs hd) (hd : E.rnd = false → dfr) {ops : Array Oper} {Q : Exit → Act → World → Prop} {kn : St → Prop} : ∀ (l : List Oper) {ρ : Nat → Value} {st : St} {a : Act} {w : World}, vcOps E ops l st kn kp → StRel B ρ st a fs w →
    (∀ st' ρ' a' w', kn st' → StRel B ρ' st' a' fs w' → Q .normal a' w') →
    (∀ s st' ρ' v a' w', kp s st' → StRel B ρ' st' a' fs w' → s.rel (cx B ρ' st'.hp w') v → Q (.panic [{ v := v, recovered := false }]) a' w') → gList L ops Q l a w
  | [], ρ, st, a, w, hk, h, hn, _ => hn st ρ a w hk h
  | o :: rest, ρ, st, a, w, hk, h, hn, hp => by
    have run : ∀ {st1 : St}, vcOp E st1 o (fun s st' => st'.setK o.dst s fun st'' => vcOps E ops rest st'' kn kp) kp → StRel B ρ st1 a fs w → L.W o a w (gList L ops Q rest) Q := by
      intro st1 hk1 h1
      refine vcOp_sound hE hB hy h1 hk1 (fun s st' ρ' v w' hs hr hv => ?_) (fun s st' ρ' v w' hs hr hv => hp s st' ρ' v a w' hs hr hv)
      obtain ⟨st2, h2, h3⟩ := setK_sound hs hr hv
      exact vcOps_sound hE hB hy hd rest h2 h3 hn hp
    have skip : ∀ {st1 : St} {s : SV}, (st1.setK o.dst s fun st'' => vcOps E ops rest st'' kn kp) → StRel B ρ st1 a fs w → s.rel (cx B ρ st1.hp w) undef → gList L ops Q rest (a.put o.dst undef) w := by
      intro st1 s hk1 h1 hs
      obtain ⟨st2, h2, h3⟩ := setK_sound hk1 h1 hs
      exact vcOps_sound hE hB hy hd rest h2 h3 hn hp
    simp only [vcOps] at hk
    unfold gList
    split at hk
    · rename_i hg
      rw [if_pos (by simp [Region.wanted, hg])]
      split at hk
      · rename_i st1 hdf
        refine defr_sound hd hdf h (fun a' h1 => ?_)
        obtain ⟨st2, h2, h3⟩ := setK_sound hk h1 (v := undef) (show SV.rel _ .junk undef from trivial)
        exact vcOps_sound hE hB hy hd rest h2 h3 hn hp
      · exact run hk h
    · rename_i j want hg
      split at hk
      · exact hk.elim
      · rename_i g hgd
        have wanted : ∀ b : Bool, g < st.n → a.tmps.getD g undef = .bool b → Region.wanted o (yielded ops a.tmps) = (b == want) := by
          intro b hlt hb
          have hsz : g < a.tmps.size := by rw [h.s.1]; exact hlt
          have : a.tmps[g]? = some (.bool b) := by
            rw [Array.getD_eq_getD_getElem?, Array.getElem?_eq_getElem hsz] at hb
            rw [Array.getElem?_eq_getElem hsz]
            simpa using hb
          simp only [Region.wanted, hg, yielded, hgd, Option.bind_some, this]
          cases b <;> cases want <;> rfl
        split at hk
        · rename_i b hkn
          obtain ⟨h1, h2⟩ := h.kn g b (lookup_mem hkn)
          rw [wanted b h1 h2]
          split at hk
          · rename_i e
            subst e
            rw [if_pos (by simp)]
            exact run hk h
          · rename_i e
            rw [if_neg (by simpa using e)]
            exact skip hk h rfl
        · split at hk
          · rename_i b hlk
            obtain ⟨h1, h2⟩ := h.s.2 g _ hlk
            have h2 : a.tmps.getD g undef = .bool b := h2
            rw [wanted b h1 h2]
            split at hk
            · rename_i e
              subst e
              rw [if_pos (by simp)]
              exact run hk h
            · rename_i e
              rw [if_neg (by simpa using e)]
              exact skip hk h rfl
          · rename_i vs hlk
            obtain ⟨h1, h2⟩ := h.s.2 g _ hlk
            have h2 : a.tmps.getD g undef = .tuple vs := h2
            have hsz : g < a.tmps.size := by rw [h.s.1]; exact h1
            have e : a.tmps[g]? = some (.tuple vs) := by
              rw [Array.getD_eq_getD_getElem?, Array.getElem?_eq_getElem hsz] at h2
              rw [Array.getElem?_eq_getElem hsz]
              simpa using h2
            rw [if_neg (by simp only [Region.wanted, hg, yielded, hgd, Option.bind_some, e]; simp)]
            exact skip hk h rfl
          · rename_i b hlk
            obtain ⟨h1, h2⟩ := h.s.2 g _ hlk
            have h2 := VRep_bool.1 h2
            rw [wanted b h1 h2]
            split at hk
            · rename_i obs s hop
              by_cases e : b = want
              · subst e
                rw [if_pos (by simp)]
                obtain ⟨h3, _⟩ := conj_all (hk.1 rfl)
                obtain ⟨v, h4, h5⟩ := op1_sound hE.ty h hop h3
                refine L.val (op1_nd hop) h4 ?_
                obtain ⟨st2, h6, h7⟩ := setK_sound hk.2 h (v := v) (mkGd_rel ⟨fun _ => h5, fun hc => absurd hc (by simp)⟩)
                exact vcOps_sound hE hB hy hd rest h6 h7 hn hp
              · rw [if_neg (by simpa using e)]
                exact skip hk.2 h (mkGd_rel ⟨fun hc => absurd (by simpa using hc) e, fun _ => rfl⟩)
            · by_cases e : b = want
              · subst e
                rw [if_pos (by simp)]
                exact run (hk.1 rfl) (h.know h1 h2)
              · rw [if_neg (by simpa using e)]
                have e' : b = !want := by cases b <;> cases want <;> simp_all
                exact skip (hk.2 e') (h.know h1 (by rw [h2, e'])) rfl
          · rename_i p b hlk
            obtain ⟨h1, h2, h3⟩ := h.s.2 g _ hlk
            have wtd : Region.wanted o (yielded ops a.tmps) = (p && (b == want)) := by
              cases p with
              | true => rw [wanted b h1 (VRep_bool.1 (h2 rfl))]; rfl
              | false =>
                have hv := h3 rfl
                have hsz : g < a.tmps.size := by rw [h.s.1]; exact h1
                have : a.tmps[g]? = some undef := by
                  rw [Array.getD_eq_getD_getElem?, Array.getElem?_eq_getElem hsz] at hv
                  rw [Array.getElem?_eq_getElem hsz]
                  simpa using hv
                simp only [Region.wanted, hg, yielded, hgd, Option.bind_some, this]
                rfl
            rw [wtd]
            split at hk
            · rename_i obs s hop
              by_cases e : (p && (b == want)) = true
              · rw [if_pos e]
                have e2 := e
                simp only [Bool.and_eq_true, beq_iff_eq] at e2
                obtain ⟨h4, _⟩ := conj_all (hk.1 e2.1 e2.2)
                obtain ⟨v, h5, h6⟩ := op1_sound hE.ty h hop h4
                refine L.val (op1_nd hop) h5 ?_
                obtain ⟨st2, h7, h8⟩ := setK_sound hk.2 h (v := v) (mkGd_rel ⟨fun _ => h6, fun hc => by rw [e] at hc; cases hc⟩)
                exact vcOps_sound hE hB hy hd rest h7 h8 hn hp
              · rw [if_neg e]
                exact skip hk.2 h (mkGd_rel ⟨fun hc => absurd hc e, fun _ => rfl⟩)
            · by_cases e : (p && (b == want)) = true
              · rw [if_pos e]
                have e2 := e
                simp only [Bool.and_eq_true, beq_iff_eq] at e2
                exact run (hk.1 e2.1 e2.2) (h.know h1 (by rw [VRep_bool.1 (h2 e2.1), e2.2]))
              · rw [if_neg e]
                cases p with
                | true =>
                  have e' : b = !want := by cases b <;> cases want <;> simp_all
                  exact skip (hk.2.1 rfl e') (h.know h1 (by rw [VRep_bool.1 (h2 rfl), e'])) rfl
                | false => exact skip (hk.2.2 rfl) (h.skipped h1 (h3 rfl)) rfl
          · exact hk.elim

theorem vcStill_sound (hE : E.Ok gl) {ops : Array Oper} {K : Act → Prop} {k : St → Prop} : ∀ (l : List Oper) {ρ : Nat → Value} {st : St} {a : Act}, vcStill E l st k → StRel B ρ st a fs w →
    (∀ st' ρ' a', k st' → StRel B ρ' st' a' fs w → K a') → wpStill E.P ops w K l a
  | [], ρ, st, a, hk, h, hn => hn st ρ a hk h
  | o :: rest, ρ, st, a, hk, h, hn => by
    simp only [vcStill] at hk
    split at hk
    · rename_i obs s hg hop
      obtain ⟨h1, h2⟩ := conj_all hk
      obtain ⟨v, h3, h4⟩ := op1_sound hE.ty h hop h1
      obtain ⟨st2, h5, h6⟩ := setK_sound h2 h h4
      unfold wpStill
      rw [if_pos (by simp [Region.wanted, hg])]
      unfold Oper.still
      rw [h3]
      exact ⟨rfl, vcStill_sound hE rest h5 h6 hn⟩
    · exact hk.elim

theorem vcStillG_sound (hE : E.Ok gl) {ops : Array Oper} {K : Act → Prop} {k : St → Prop} : ∀ (l : List Oper) {ρ : Nat → Value} {st : St} {a : Act}, vcStillG E ops l st k → StRel B ρ st a fs w →
    (∀ st' ρ' a', k st' → StRel B ρ' st' a' fs w → K a') → wpStill E.P ops w K l a
  | [], ρ, st, a, hk, h, hn => hn st ρ a hk h
  | o :: rest, ρ, st, a, hk, h, hn => by
    have run : ∀ {obs : List Prop} {s : SV}, st.op1 E.toTy o = some (obs, s) → (conj obs (st.setK o.dst s fun st' => vcStillG E ops rest st' k)) → o.still E.P a w (wpStill E.P ops w K rest) := by
      intro obs s hop hk
      obtain ⟨h1, h2⟩ := conj_all hk
      obtain ⟨v, h3, h4⟩ := op1_sound hE.ty h hop h1
      obtain ⟨st2, h5, h6⟩ := setK_sound h2 h h4
      unfold Oper.still
      rw [h3]
      exact ⟨rfl, vcStillG_sound hE rest h5 h6 hn⟩
    have skip : ∀ {s : SV}, (st.setK o.dst s fun st'' => vcStillG E ops rest st'' k) → s.rel (cx B ρ st.hp w) undef → wpStill E.P ops w K rest (a.put o.dst undef) := by
      intro s hk1 hs
      obtain ⟨st2, h2, h3⟩ := setK_sound hk1 h hs
      exact vcStillG_sound hE rest h2 h3 hn
    simp only [vcStillG] at hk
    unfold wpStill
    split at hk
    · rename_i hg
      rw [if_pos (by simp [Region.wanted, hg])]
      split at hk
      · rename_i obs s hop
        exact run hop hk
      · exact hk.elim
    · rename_i j want hg
      split at hk
      · exact hk.elim
      · rename_i g hgd
        have wanted : ∀ b : Bool, g < st.n → a.tmps.getD g undef = .bool b → Region.wanted o (yielded ops a.tmps) = (b == want) := by
          intro b hlt hb
          have hsz : g < a.tmps.size := by rw [h.s.1]; exact hlt
          have : a.tmps[g]? = some (.bool b) := by
            rw [Array.getD_eq_getD_getElem?, Array.getElem?_eq_getElem hsz] at hb
            rw [Array.getElem?_eq_getElem hsz]
            simpa using hb
          simp only [Region.wanted, hg, yielded, hgd, Option.bind_some, this]
          cases b <;> cases want <;> rfl
        split at hk
        · rename_i b hlk
          obtain ⟨h1, h2⟩ := h.s.2 g _ hlk
          have h2 : a.tmps.getD g undef = .bool b := h2
          rw [wanted b h1 h2]
          split at hk
          · rename_i e
            subst e
            rw [if_pos (by simp)]
            split at hk
            · rename_i obs s hop
              exact run hop hk
            · exact hk.elim
          · rename_i e
            rw [if_neg (by simpa using e)]
            exact skip hk rfl
        · rename_i vs hlk
          obtain ⟨h1, h2⟩ := h.s.2 g _ hlk
          have h2 : a.tmps.getD g undef = .tuple vs := h2
          have hsz : g < a.tmps.size := by rw [h.s.1]; exact h1
          have e : a.tmps[g]? = some (.tuple vs) := by
            rw [Array.getD_eq_getD_getElem?, Array.getElem?_eq_getElem hsz] at h2
            rw [Array.getElem?_eq_getElem hsz]
            simpa using h2
          rw [if_neg (by simp only [Region.wanted, hg, yielded, hgd, Option.bind_some, e]; simp)]
          exact skip hk rfl
        · rename_i b hlk
          obtain ⟨h1, h2⟩ := h.s.2 g _ hlk
          have h2 := VRep_bool.1 h2
          rw [wanted b h1 h2]
          split at hk
          · rename_i obs s hop
            by_cases e : b = want
            · subst e
              rw [if_pos (by simp)]
              obtain ⟨h3, _⟩ := conj_all (hk.1 rfl)
              obtain ⟨v, h4, h5⟩ := op1_sound hE.ty h hop h3
              obtain ⟨st2, h6, h7⟩ := setK_sound hk.2 h (v := v) (mkGd_rel ⟨fun _ => h5, fun hc => absurd hc (by simp)⟩)
              unfold Oper.still
              rw [h4]
              exact ⟨rfl, vcStillG_sound hE rest h6 h7 hn⟩
            · rw [if_neg (by simpa using e)]
              exact skip hk.2 (mkGd_rel ⟨fun hc => absurd (by simpa using hc) e, fun _ => rfl⟩)
          · exact hk.elim
        · rename_i p b hlk
          obtain ⟨h1, h2, h3⟩ := h.s.2 g _ hlk
          have wtd : Region.wanted o (yielded ops a.tmps) = (p && (b == want)) := by
            cases p with
            | true => rw [wanted b h1 (VRep_bool.1 (h2 rfl))]; rfl
            | false =>
              have hv := h3 rfl
              have hsz : g < a.tmps.size := by rw [h.s.1]; exact h1
              have : a.tmps[g]? = some undef := by
                rw [Array.getD_eq_getD_getElem?, Array.getElem?_eq_getElem hsz] at hv
                rw [Array.getElem?_eq_getElem hsz]
                simpa using hv
              simp only [Region.wanted, hg, yielded, hgd, Option.bind_some, this]
              rfl
          rw [wtd]
          split at hk
          · rename_i obs s hop
            by_cases e : (p && (b == want)) = true
            · rw [if_pos e]
              have e2 := e
              simp only [Bool.and_eq_true, beq_iff_eq] at e2
              obtain ⟨h4, _⟩ := conj_all (hk.1 e2.1 e2.2)
              obtain ⟨v, h5, h6⟩ := op1_sound hE.ty h hop h4
              obtain ⟨st2, h7, h8⟩ := setK_sound hk.2 h (v := v) (mkGd_rel ⟨fun _ => h6, fun hc => by rw [e] at hc; cases hc⟩)
              unfold Oper.still
              rw [h5]
              exact ⟨rfl, vcStillG_sound hE rest h7 h8 hn⟩
            · rw [if_neg e]
              exact skip hk.2 (mkGd_rel ⟨fun hc => absurd hc e, fun _ => rfl⟩)
          · exact hk.elim
        · exact hk.elim

theorem upon_in {P : Program} {r : Option Nat} {o : Oper} {next next' : Act → World → Prop} {Q : Exit → Act → World → Prop} {res : Result Next} (hq : ¬ LetsOut Q) (hn : ∀ a w, next a w → next' a w) (h : o.upon P a next Q res) : o.uponIn (fen r) 0 P a next' Q res := by
  unfold Oper.upon at h
  split at h
  · exact hn _ _ h
  · exact hn _ _ h
  · exact hn _ _ h
  · refine ⟨fun h => (by cases h), ?_⟩
    have : CallsIn Fence.wide 0 P _ _ _ _ := callsIn_wide.2 h
    have h2 : CallsIn (fen r) 0 P _ _ _ _ := this
    refine CallsIn.mono h2 fun e w' hw => ?_
    cases e with
    | returned v => exact hn _ _ hw
    | panicked ch => exact hw
    | outgrown => exact absurd hw hq
  · refine ⟨fun h => (by cases h), ?_⟩
    intro c cs _
    obtain ⟨v, w', h1, h2⟩ := h c cs
    exact ⟨v, w', hn _ _ h1, stepsIn_wide.2 h2⟩
  · exact h
  · exact h.elim

theorem wpOps_in {P : Program} {r : Option Nat} {ops : Array Oper} {Q : Exit → Act → World → Prop} (hq : ¬ LetsOut Q) (hnd : ∀ (i : Nat) (o : Oper), ops[i]? = some o → ∀ c, o.op ≠ .defer c) : ∀ (l : List Nat) (a : Act) (w : World), wpOps P ops Q l a w → wpOpsIn (fen r) 0 P ops Q l a w
  | [], _, _, h => h
  | i :: rest, a, w, h => by
    unfold wpOps at h
    unfold wpOpsIn
    split at h
    · rename_i ho
      simp only [ho]
      exact wpOps_in hq hnd rest a w h
    · rename_i o ho
      simp only [ho]
      split at h
      · rename_i hw
        rw [if_pos hw]
        rcases h with h | ⟨_, h⟩
        · refine ⟨fun _ _ => trivial, ?_⟩
          rw [semAt_eq (hnd i o ho)]
          exact upon_in hq (fun a w hh => wpOps_in hq hnd rest a w hh) h
        · exact absurd h hq
      · rename_i hw
        rw [if_neg hw]
        exact ⟨fun _ _ => trivial, wpOps_in hq hnd rest _ w h⟩

theorem draw_any {P : Program} {r : Option Nat} {id : Nat} {ops : Array Oper} {Q : Exit → Act → World → Prop} (hm : P.follows .mixedOrders = true) (hq : ¬ LetsOut Q) (hnd : ∀ (i : Nat) (o : Oper), ops[i]? = some o → ∀ c, o.op ≠ .defer c)
    (h : wpAny P .any ops Q ops.size (Array.replicate ops.size false) a { w with drawn := w.drawn + 1 }) : (Code.region id ops true).wpIn (fen r) 0 P Q a w :=
  wpIn_region_draw fun t => by
    simp only [Region.schedule, hm, Bool.true_or, if_true]
    exact wpOps_in hq hnd _ _ _ (wpAny_sound ops.size t _ a _ h)

theorem any_still {P : Program} {ops : Array Oper} {Q : Exit → Act → World → Prop} (hB : Region.lexB .any ops = true)
    (h : wpStill P ops w (fun a' => Q .normal a' w) ops.toList a) : wpAny P .any ops Q ops.size (Array.replicate ops.size false) a w := by
  simp only [Region.lexB, Bool.and_eq_true] at hB
  refine wpAny_of_still (Q := fun a' => Q .normal a' w) (fun _ h => h) _ _ _ ?_
  have := wpAnyS_lex (md := .any) hB.1 ops.toList 0 (Array.replicate ops.size false) a (by simp) (by simpa using hB.2) h
  simpa using this

theorem any_tail {P : Program} {Q : Exit → Act → World → Prop} {l : List Oper} (n : Nat) (hB : Region.lexTailB .any l.toArray n = true)
    (h : wpStill P l.toArray w (fun a' => wpList P l.toArray Q (l.drop n) a' w) (l.take n) a) : wpAny P .any l.toArray Q l.toArray.size (Array.replicate l.toArray.size false) a w := by
  simp only [Region.lexTailB, Bool.and_eq_true, decide_eq_true_eq] at hB
  obtain ⟨⟨⟨⟨hsel, hn⟩, hs⟩, hc⟩, hlex⟩ := hB
  have hn' : n < l.length := by simpa using hn
  have htl : (l.take n).length = n := by simp; omega
  have hdl : (l.drop n).length = l.toArray.size - n := by simp
  have inv0 : HeadInv .any l.toArray n (Array.replicate l.toArray.size false) :=
    ⟨by simp, fun j oj _ hl => (by rw [getD_replicate_false] at hl; cases hl), fun t _ ht => getD_in (by simpa using ht) (getD_replicate_false _ _)⟩
  have H := wpAnyL_lex (md := .any) (g := l.toArray.size - n) hsel hs hc hn (l.take n) 0 _ a (fun j hj => by
    have hj' : j < n := by rw [htl] at hj; exact hj
    simp [hj']) (by simpa using htl) inv0 (by rw [htl]; exact hlex) h
  have := wpAny_of_head (Q' := Q) (g := l.toArray.size - n) (fun listed a' hL => by
    have := wpAny_of_seq (md := .any) (Q' := Q) (l.drop n) n listed a' w (fun j => by simp [List.getElem?_drop]) (by rw [hdl]; exact hL.1) hL.2
    rwa [hdl] at this) _ _ _ H
  rw [htl, show n + (l.toArray.size - n) = l.toArray.size by omega] at this
  exact this

theorem both_mem {ops : Array Oper} {g : Nat → OT} {kn : St → Prop} {i : Nat} : ∀ {l : List Nat}, vcAny E ops (l.foldr (fun i t => .both (.one i (g i)) t) .nil) st kn → i ∈ l → vcAny E ops (.one i (g i)) st kn
  | [], _, hi => by cases hi
  | j :: l, h, hi => by
    rcases List.mem_cons.1 hi with rfl | hi
    · exact h.1
    · exact both_mem h.2 hi

theorem plainMove_spec {o : Oper} {x : Operand} (h : plainMove o = some x) : ∀ (P : Program) (ρ : Operand → Value) (w : World), (execOp ρ o).run P w = .ok (.value (ρ x)) w := by
  unfold plainMove at h
  split at h
  · rename_i y e; cases h
    exact fun P ρ w => by unfold execOp; rw [e]; rfl
  · rename_i y e; cases h
    exact fun P ρ w => by unfold execOp; rw [e]; rfl
  · cases h

theorem guarded_sound (h : StRel B ρ st a fs w) {ops : Array Oper} {o : Oper} {s s' : SV} {v : Value} (hs : s.rel (cx B ρ st.hp w) v) (hg : st.guarded ops o s = some s') :
    (Region.wanted o (yielded ops a.tmps) = true ∧ s'.rel (cx B ρ st.hp w) v) ∨ (Region.wanted o (yielded ops a.tmps) = false ∧ s'.rel (cx B ρ st.hp w) undef) := by
  unfold St.guarded at hg
  split at hg
  · rename_i e
    cases hg
    exact .inl ⟨by simp [Region.wanted, e], hs⟩
  · rename_i j want e
    split at hg
    · cases hg
    · rename_i g hgd
      have wanted : ∀ b : Bool, g < st.n → a.tmps.getD g undef = .bool b → Region.wanted o (yielded ops a.tmps) = (b == want) := by
        intro b hlt hb
        have hsz : g < a.tmps.size := by rw [h.s.1]; exact hlt
        have : a.tmps[g]? = some (.bool b) := by
          rw [Array.getD_eq_getD_getElem?, Array.getElem?_eq_getElem hsz] at hb
          rw [Array.getElem?_eq_getElem hsz]
          simpa using hb
        simp only [Region.wanted, e, yielded, hgd, Option.bind_some, this]
        cases b <;> cases want <;> rfl
      have notB : ∀ vs, g < st.n → a.tmps.getD g undef = .tuple vs → Region.wanted o (yielded ops a.tmps) = false := by
        intro vs hlt hb
        have hsz : g < a.tmps.size := by rw [h.s.1]; exact hlt
        have : a.tmps[g]? = some (.tuple vs) := by
          rw [Array.getD_eq_getD_getElem?, Array.getElem?_eq_getElem hsz] at hb
          rw [Array.getElem?_eq_getElem hsz]
          simpa using hb
        simp only [Region.wanted, e, yielded, hgd, Option.bind_some, this]
        rfl
      split at hg
      · rename_i b hlk
        obtain ⟨h1, h2⟩ := h.s.2 g _ hlk
        have h2 : a.tmps.getD g undef = .bool b := h2
        cases hg
        rw [wanted b h1 h2]
        by_cases e : b = want
        · rw [if_pos e]; exact .inl ⟨by simpa using e, hs⟩
        · rw [if_neg e]; exact .inr ⟨by simpa using e, rfl⟩
      · rename_i vs hlk
        obtain ⟨h1, h2⟩ := h.s.2 g _ hlk
        cases hg
        exact .inr ⟨notB vs h1 h2, rfl⟩
      · rename_i b hlk
        obtain ⟨h1, h2⟩ := h.s.2 g _ hlk
        cases hg
        rw [wanted b h1 (VRep_bool.1 h2)]
        cases e : (b == want) with
        | true => exact .inl ⟨rfl, mkGd_rel ⟨fun _ => hs, fun hc => by cases hc⟩⟩
        | false => exact .inr ⟨rfl, mkGd_rel ⟨fun hc => (by cases hc), fun _ => rfl⟩⟩
      · rename_i p b hlk
        obtain ⟨h1, h2, h3⟩ := h.s.2 g _ hlk
        have wtd : Region.wanted o (yielded ops a.tmps) = (p && (b == want)) := by
          cases p with
          | true => rw [wanted b h1 (VRep_bool.1 (h2 rfl))]; rfl
          | false => rw [notB #[] h1 (h3 rfl)]; rfl
        cases hg
        rw [wtd]
        cases e : (p && (b == want)) with
        | true => exact .inl ⟨rfl, mkGd_rel ⟨fun _ => hs, fun hc => by cases hc⟩⟩
        | false => exact .inr ⟨rfl, mkGd_rel ⟨fun hc => (by cases hc), fun _ => rfl⟩⟩
      · cases hg

theorem upon_exits {P : Program} {o : Oper} {a : Act} {next : Act → World → Prop} {Q Q' : Exit → Act → World → Prop} {res : Result Next} (hp : ∀ c a w, ¬ Q' (.panic c) a w) (ho : ¬ LetsOut Q') (h : o.upon P a next Q' res) : o.upon P a next Q res := by
  unfold Oper.upon at h
  split at h
  · exact h
  · exact h
  · exact h
  · refine Calls.mono h fun e w' hw => ?_
    cases e with
    | returned v => exact hw
    | panicked ch => exact absurd hw (hp _ _ _)
    | outgrown => exact absurd hw ho
  · exact h
  · exact absurd h (hp _ _ _)
  · exact h.elim

theorem wpAny_exits {P : Program} {ops : Array Oper} {Q Q' : Exit → Act → World → Prop} (hp : ∀ c a w, ¬ Q' (.panic c) a w) (ho : ¬ LetsOut Q') (hn : ∀ a w, Q' .normal a w → Q .normal a w) :
    ∀ (f : Nat) (listed : Array Bool) (a : Act) (w : World), wpAny P .any ops Q' f listed a w → wpAny P .any ops Q f listed a w
  | 0, _, _, _, h => ⟨h.1, hn _ _ h.2⟩
  | f + 1, _, a, w, h => ⟨fun hr => hn _ _ (h.1 hr), fun i hi => by
    have h1 := wpOp_mono (fun a w hh => wpAny_exits hp ho hn f _ a w hh) (h.2 i hi)
    unfold wpOp at h1 ⊢
    split at h1
    · exact h1
    · split at h1
      · rename_i hw
        rw [if_pos hw]
        rcases h1 with h1 | ⟨_, h1⟩
        · exact .inl (upon_exits hp ho h1)
        · exact absurd h1 ho
      · rename_i hw
        rw [if_neg hw]
        exact h1⟩

theorem vcAny_sound (hE : E.Ok gl) (hB : B.gl = gl) (hy : E.yld = none) (hr : E.rnd = true) {ops : Array Oper} (hs : Region.noSelect ops = true) {Q : Exit → Act → World → Prop} (hp : ∀ c a w, ¬ Q (.panic c) a w) {kn : St → Prop}
    (hn : ∀ st' ρ' a' w', kn st' → StRel B ρ' st' a' fs w' → Q .normal a' w') : ∀ (f : Nat) (listed : Array Bool) {ρ : Nat → Value} {st : St} {a : Act} {w : World},
    vcAny E ops (orders (puOf E) ops f listed) st kn → StRel B ρ st a fs w → wpAny E.P .any ops Q f listed a w
  | 0, listed, ρ, st, a, w, hk, h => by
    simp only [orders] at hk
    split at hk
    · rename_i he
      exact ⟨by simpa using he, hn _ _ _ _ hk h⟩
    · exact hk.elim
  | f + 1, listed, ρ, st, a, w, hk, h => by
    simp only [orders] at hk
    split at hk
    · rename_i he
      exact wpAny_done (by simpa using he) (hn _ _ _ _ hk h) _
    rename_i hne
    split at hk
    · rename_i i hf
      have hf1 := List.find?_some hf
      have hf2 := List.mem_of_find?_eq_some hf
      simp only [Bool.and_eq_true] at hf1
      simp only [vcAny] at hk
      split at hk
      · rename_i o ho
        split at hk
        · rename_i x hx
          have hrun := plainMove_spec hx
          split at hk
          · rename_i s hgu
            rcases guarded_sound h (ev_rel h x) hgu with ⟨hw, hv⟩ | ⟨hw, hv⟩
            · obtain ⟨st2, h2, h3⟩ := setK_sound hk h hv
              exact wpAny_take ho hs hf1.2 (by simpa using hf2) (fun c a w hq => absurd hq (hp _ _ _)) (.inl ⟨hw, fun w => hrun _ _ _⟩) (vcAny_sound hE hB hy hr hs hp hn f _ h2 h3)
            · obtain ⟨st2, h2, h3⟩ := setK_sound hk h hv
              exact wpAny_take ho hs hf1.2 (by simpa using hf2) (fun c a w hq => absurd hq (hp _ _ _)) (.inr ⟨hw, rfl⟩) (vcAny_sound hE hB hy hr hs hp hn f _ h2 h3)
          · exact hk.elim
        · exact hk.elim
      · exact hk.elim
    split at hk
    · rename_i i hf
      have hf1 := List.find?_some hf
      have hf2 := List.mem_of_find?_eq_some hf
      simp only [Bool.and_eq_true] at hf1
      simp only [vcAny] at hk
      split at hk
      · rename_i o ho
        split at hk
        · rename_i hpu
          have hfr : (∃ v, ∀ w, (execOp a.eval o).run E.P w = .ok (.value v) w) ∨ ∀ w n w', (execOp a.eval o).run E.P w ≠ .ok n w' := by
            rw [Bool.or_eq_true, Bool.and_eq_true, Bool.and_eq_true] at hpu
            rcases hpu with hpu | ⟨⟨_, h1⟩, h2⟩
            · exact pureOp_free hE.ty hpu a.eval
            · exact pureInt_free hE.ty h1 h h2
          have h1 := vcStillG_sound (K := fun a' => ∃ st' ρ', vcAny E ops (orders (puOf E) ops f (listed.setIfInBounds i true)) st' kn ∧ StRel B ρ' st' a' fs w) hE [o] hk h (fun st' ρ' a' h1 h2 => ⟨st', ρ', h1, h2⟩)
          unfold wpStill at h1
          split at h1
          · rename_i hw
            unfold Oper.still at h1
            rcases hfr with ⟨v, hn1⟩ | hno
            · rw [hn1 w] at h1
              obtain ⟨_, st', ρ', h2, h3⟩ := h1
              exact wpAny_take ho hs hf1.2 (by simpa using hf2) (fun c a w hq => absurd hq (hp _ _ _)) (.inl ⟨hw, hn1⟩) (vcAny_sound hE hB hy hr hs hp hn f _ h2 h3)
            · exact absurd h1 (by
                generalize hres : (execOp a.eval o).run E.P w = res
                intro hc
                cases res with
                | ok n w' => exact hno w n w' hres
                | halt x w' => exact hc)
          · rename_i hw
            obtain ⟨st', ρ', h2, h3⟩ := h1
            exact wpAny_take ho hs hf1.2 (by simpa using hf2) (fun c a w hq => absurd hq (hp _ _ _)) (.inr ⟨by simpa using hw, rfl⟩) (vcAny_sound hE hB hy hr hs hp hn f _ h2 h3)
        · exact hk.elim
      · exact hk.elim
    · refine ⟨fun he => absurd he (by simpa using hne), fun i hi => ?_⟩
      have h1 := both_mem hk hi
      simp only [vcAny] at h1
      split at h1
      · rename_i o ho
        have h2 := vcOps_sound (L := Lg.plain E.P) (dfr := False) (Q := fun e a w => match e with | .normal => wpAny E.P .any ops Q f (listed.setIfInBounds i true) a w | _ => False) hE hB (fun hd hh => by rw [hy] at hh; cases hh) (fun hh => by rw [hr] at hh; cases hh) _ h1 h
          (fun st' ρ' a' w' hk' h' => vcAny_sound hE hB hy hr hs hp hn f _ hk' h') (fun _ _ _ _ _ _ hh => hh.elim)
        have h3 := gList_plain h2
        unfold wpOp
        rw [ho]
        simp only
        unfold wpList at h3
        split
        · rename_i hw
          rw [if_pos hw] at h3
          rcases h3 with h3 | ⟨_, a', w', h4⟩
          · left
            refine upon_exits (Q' := fun e a w => match e with | .normal => wpAny E.P .any ops Q f (listed.setIfInBounds i true) a w | _ => False) (fun _ _ _ hh => hh) (fun ⟨_, _, hh⟩ => hh) ?_
            exact h3
          · exact h4.elim
        · rename_i hw
          rw [if_neg hw] at h3
          exact h3
      · exact h1.elim

theorem Env.Ok.quiet (hE : E.Ok gl) : Env.Ok { E with yld := none, rnd := true } gl := ⟨hE.ty, hE.fn, hE.seq, hE.df, hE.mixed⟩

theorem vcDraw_sound {r : Option Nat} (hE : E.Ok gl) (hB : B.gl = gl) {id : Nat} {ops : Array Oper} {Q : Exit → Act → World → Prop} (hq : ¬ LetsOut Q) {kn : St → Prop} (hk : vcDraw E ops st kn kp) (h : StRel B ρ st a fs w)
    (hn : ∀ st' ρ' a' w', kn st' → StRel B ρ' st' a' fs w' → Q .normal a' w')
    (hp : ∀ s st' ρ' v a' w', kp s st' → StRel B ρ' st' a' fs w' → s.rel (cx B ρ' st'.hp w') v → Q (.panic [{ v := v, recovered := false }]) a' w') : (Code.region id ops true).wpIn (fen r) 0 E.P Q a w := by
  have h' : StRel B ρ st a fs { w with drawn := w.drawn + 1 } := h.same_heap rfl rfl rfl rfl
  unfold vcDraw at hk
  split at hk
  · exact hk.elim
  rename_i hdef
  have hnd : ∀ (i : Nat) (o : Oper), ops[i]? = some o → ∀ c, o.op ≠ .defer c := by
    intro i o ho c e
    apply hdef
    rw [List.any_eq_true]
    exact ⟨o, by simpa using Array.mem_of_getElem? ho, by rw [e]; rfl⟩
  simp only at hk
  split at hk
  · rename_i ht
    have e : ops = ops.toList.toArray := by simp
    refine draw_any hE.mixed hq hnd ?_
    rw [e]
    rw [e] at ht
    simp only [List.size_toArray, Array.length_toList] at ht
    refine any_tail _ ht ?_
    refine vcStillG_sound hE _ hk h' (fun st' ρ' a' hs hr => ?_)
    have := vcOps_sound (E := { E with yld := none, rnd := true }) (L := Lg.plain E.P) (dfr := False) hE.quiet hB (fun hd h => by cases h) (fun h => by cases h) _ hs hr hn hp
    rw [e] at this
    exact gList_plain (by simpa using this)
  · split at hk
    · rename_i ht
      simp only [Bool.and_eq_true] at ht
      exact draw_any hE.mixed hq hnd (any_still ht.1 (vcStillG_sound hE _ hk h' (fun st' ρ' a' hs hr => hn st' ρ' a' _ hs hr)))
    · split at hk
      · rename_i hsel
        refine draw_any hE.mixed hq hnd (wpAny_exits (Q' := fun e a w => match e with | .normal => Q .normal a w | _ => False) (fun _ _ _ hh => hh) (fun ⟨_, _, hh⟩ => hh) (fun _ _ hh => hh) _ _ _ _ ?_)
        exact vcAny_sound (E := { E with yld := none, rnd := true }) (Q := fun e a w => match e with | .normal => Q .normal a w | _ => False) hE.quiet hB rfl rfl hsel (fun _ _ _ hh => hh) hn _ _ hk h'
      · exact hk.elim
end
end Go.Vc
end
section
/- Loops: what a round may turn, as variables. -/
namespace Go.Vc
open Go.RowKit

/-- How a place (a slot, a cell of a variable) stands at a loop's head. -/
inductive PE where
  | var (i : Nat) (k : Kd)
  | own (i n : Nat)
  | same (i : Nat) (s : SV)

@[reducible] def PE.Tup : List PE → Type
  | [] => Unit
  | .var _ k :: l => k.T × PE.Tup l
  | .own _ _ :: l => PE.Tup l
  | .same _ _ :: l => PE.Tup l

def PE.mk : (l : List PE) → PE.Tup l → Slots
  | [], _ => []
  | .var i k :: l, y => (i, .dat k y.1) :: PE.mk l y.2
  | .own i n :: l, y => (i, .own n) :: PE.mk l y
  | .same i s :: l, y => (i, s) :: PE.mk l y

def PE.wf : (l : List PE) → PE.Tup l → Prop
  | [], _ => True
  | .var _ k :: l, y => k.wf y.1 ∧ PE.wf l y.2
  | .own _ _ :: l, y => PE.wf l y
  | .same _ _ :: l, y => PE.wf l y

/-- An object at a loop's head. -/
inductive OE where
  | dead
  | row (e : Nat) (k : Kd)
  | rowSame (e : Nat) (k : Kd) (xs : List k.T)
  | var (t : Nat) (l : List PE)
  | iter (l : List Int)
  | iterSame (l : List Int) (pos : Nat)
  | dfr

@[reducible] def OE.Tup : List OE → Type
  | [] => Unit
  | .dead :: l => OE.Tup l
  | .row _ k :: l => List k.T × OE.Tup l
  | .rowSame _ _ _ :: l => OE.Tup l
  | .var _ p :: l => PE.Tup p × OE.Tup l
  | .iter _ :: l => Nat × OE.Tup l
  | .iterSame _ _ :: l => OE.Tup l
  | .dfr :: l => OE.Tup l

def OE.mk : (l : List OE) → OE.Tup l → List (Option Ob)
  | [], _ => []
  | .dead :: l, z => none :: OE.mk l z
  | .row e k :: l, z => some (.row e k z.1) :: OE.mk l z.2
  | .rowSame e k xs :: l, z => some (.row e k xs) :: OE.mk l z
  | .var t p :: l, z => some (.var t ((PE.mk p z.1).map (·.2))) :: OE.mk l z.2
  | .iter t :: l, z => some (.siter t z.1) :: OE.mk l z.2
  | .iterSame t pos :: l, z => some (.siter t pos) :: OE.mk l z
  | .dfr :: l, z => some .dfr :: OE.mk l z

def OE.wf : (l : List OE) → OE.Tup l → Prop
  | [], _ => True
  | .dead :: l, z => OE.wf l z
  | .row _ k :: l, z => Kd.wf (.sl k) z.1 ∧ OE.wf l z.2
  | .rowSame _ _ _ :: l, z => OE.wf l z
  | .var _ p :: l, z => PE.wf p z.1 ∧ OE.wf l z.2
  | .iter _ :: l, z => OE.wf l z.2
  | .iterSame _ _ :: l, z => OE.wf l z
  | .dfr :: l, z => OE.wf l z

/-- Data out of a value, rows included (that are written no more). -/
def St.asData (st : St) (k : Kd) (s : SV) : Option k.T :=
  match s.as k with
  | some x => some x
  | none => match k with
    | .sl k => match st.list s with
      | some ⟨k', xs⟩ => if h : k' = k then some (castL h xs) else none
      | none => none
    | _ => none

/-- Two values that are one: what is to be shown. -/
def sameSV : SV → SV → Option (List Prop)
  | .dat k x, .dat k' x' => if h : k' = k then some [castT h x' = x] else none
  | .cst c, .cst c' => some [c' = c]
  | .own n, .own n' => if n' = n then some [] else none
  | .sub n k o l, .sub n' k' o' l' => if n' = n ∧ k' = k then some [o' = o, l' = l] else none
  | .ptr n o, .ptr n' o' => if n' = n ∧ o' = o then some [] else none
  | .rptr n, .rptr n' => if n' = n then some [] else none
  | .fn f c, .fn f' c' => if f' = f then sameSVs c c' else none
  | .agg c, .agg c' => sameSVs c c'
  | .tup c, .tup c' => sameSVs c c'
  | .ifc t s, .ifc t' s' => if t' = t then sameSV s s' else none
  | .yld, .yld => some []
  | .aar k x, .aar k' x' => if h : k' = k then some [castL h x' = x] else none
  | _, _ => none
where sameSVs : List SV → List SV → Option (List Prop)
  | [], [] => some []
  | s :: l, s' :: l' => match sameSV s s', sameSVs l l' with
    | some p, some q => some (p ++ q)
    | _, _ => none
  | _, _ => none

mutual
def SV.names : SV → List Nat
  | .own n => [n]
  | .sub n _ _ _ => [n]
  | .ptr n _ => [n]
  | .rptr n => [n]
  | .oel n _ _ _ => [n]
  | .fn _ c => SV.namesL c
  | .tup c => SV.namesL c
  | .agg c => SV.namesL c
  | .ifc _ s => SV.names s
  | .gd _ s => SV.names s
  | .dat _ _ | .cst _ | .adr _ _ | .junk | .yld | .aar _ _ => []
def SV.namesL : List SV → List Nat
  | [] => []
  | s :: l => SV.names s ++ SV.namesL l
end

/-- From one reading to another that has the same of some objects. -/
structure Cx.mv (C C' : Cx) (ok : Nat → Prop) : Prop where
  w : C'.w = C.w
  F : ∀ b, b < C.w.heap.size → C'.F b → C.F b
  ok : ∀ n, ok n → n < C'.N ∧ C'.ρ n = C.ρ n
  lp : C'.lp = C.lp

theorem VRep.mv {C C' : Cx} {ok : Nat → Prop} (h : C.mv C' ok) {k : Kd} {x : k.T} {v : Value} (hv : VRep C.w C.F k x v) : VRep C'.w C'.F k x v := by
  obtain ⟨cs, hr, hc⟩ := hv
  rw [h.w]
  exact ⟨cs, hr.mono h.F, hc⟩

mutual
theorem SV.rel.mv {C C' : Cx} {ok : Nat → Prop} (h : C.mv C' ok) : ∀ {s : SV} {v : Value}, (∀ n ∈ s.names, ok n) → s.rel C v → s.rel C' v
  | .dat k x, v, _, hr => VRep.mv h hr
  | .cst c, v, _, hr => hr
  | .own n, v, hn, hr => by
    obtain ⟨h1, h2⟩ := h.ok n (hn n (by simp [SV.names]))
    exact ⟨h1, by rw [h2]; exact hr.2⟩
  | .sub n k off len, v, hn, hr => by
    obtain ⟨h1, h2⟩ := h.ok n (hn n (by simp [SV.names]))
    exact ⟨h1, by rw [h2]; exact hr.2⟩
  | .ptr n o, v, hn, hr => by
    obtain ⟨h1, h2⟩ := h.ok n (hn n (by simp [SV.names]))
    exact ⟨h1, by rw [h2]; exact hr.2⟩
  | .rptr n, v, hn, hr => by
    obtain ⟨h1, h2⟩ := h.ok n (hn n (by simp [SV.names]))
    exact ⟨h1, by rw [h2]; exact hr.2⟩
  | .adr k x, v, _, hr => by
    obtain ⟨ad, cs, e, h1, h2, h3, h4⟩ := hr
    exact ⟨ad, cs, e, by rw [h.w]; exact h1.mono h.F, by rw [h.w]; exact h2, fun hc => h3 (h.F _ h2 hc), by rw [h.w]; exact h4⟩
  | .oel n k i off, v, hn, hr => by
    obtain ⟨h1, h2⟩ := h.ok n (hn n (by simp [SV.names]))
    exact ⟨h1, by rw [h2]; exact hr.2⟩
  | .fn f cap, v, hn, hr => by obtain ⟨vs, e, hs⟩ := hr; exact ⟨vs, e, SV.rels.mv h hn hs⟩
  | .tup l, v, hn, hr => by obtain ⟨vs, e, hs⟩ := hr; exact ⟨vs, e, SV.rels.mv h hn hs⟩
  | .agg l, v, hn, hr => by obtain ⟨vs, e, hs⟩ := hr; exact ⟨vs, e, SV.rels.mv h hn hs⟩
  | .ifc t s, v, hn, hr => by obtain ⟨u, e, hs⟩ := hr; exact ⟨u, e, SV.rel.mv h hn hs⟩
  | .gd p s, v, hn, hr => ⟨fun hp => SV.rel.mv h hn (hr.1 hp), hr.2⟩
  | .junk, _, _, _ => trivial
  | .yld, v, _, hr => by
    have hr : v = _ := hr
    show v = _
    rw [h.lp]; exact hr
  | .aar k xs, v, _, hr => by
    obtain ⟨ad, e, h1, h2, h3⟩ := hr
    refine ⟨ad, e, by rw [h.w]; exact h1, fun hc => h2 (h.F _ h1 hc), ?_⟩
    rw [h.w]
    exact h3.imp (fun x _ cs hr => hr.mono h.F) fun _ _ hu => hu
theorem SV.rels.mv {C C' : Cx} {ok : Nat → Prop} (h : C.mv C' ok) : ∀ {l : List SV} {vs : List Value}, (∀ n ∈ SV.namesL l, ok n) → SV.rels C l vs → SV.rels C' l vs
  | [], _, _, hr => hr
  | s :: l, vs, hn, hr => by
    obtain ⟨v, r, e, h1, h2⟩ := hr
    exact ⟨v, r, e, SV.rel.mv h (fun n hm => hn n (by simp [SV.namesL, hm])) h1, SV.rels.mv h (fun n hm => hn n (by simp [SV.namesL, hm])) h2⟩
end

mutual
theorem sameSV_rel {C : Cx} : ∀ {s s' : SV} {obs : List Prop} {v : Value}, sameSV s s' = some obs → (∀ p ∈ obs, p) → s'.rel C v → s.rel C v
  | .dat k x, s', obs, v, h, ho, hr => by
    cases s' <;> simp only [sameSV] at h <;> try (cases h; done)
    split at h
    · rename_i k' x' e
      subst e
      cases h
      have : x' = x := ho _ (by simp [castT])
      rw [← this]; exact hr
    · cases h
  | .cst c, s', obs, v, h, ho, hr => by
    cases s' <;> simp only [sameSV] at h <;> try (cases h; done)
    rename_i c'
    cases h
    have : c' = c := ho _ (by simp)
    rw [← this]; exact hr
  | .own n, s', obs, v, h, ho, hr => by
    cases s' <;> simp only [sameSV] at h <;> try (cases h; done)
    split at h
    · rename_i e; rw [← e]; exact hr
    · cases h
  | .sub n k o l, s', obs, v, h, ho, hr => by
    cases s' <;> simp only [sameSV] at h <;> try (cases h; done)
    split at h
    · rename_i n' k' o' l' e
      cases h
      have h1 : o' = o := ho _ (by simp)
      have h2 : l' = l := ho _ (by simp)
      rw [← h1, ← h2, ← e.1, ← e.2]; exact hr
    · cases h
  | .ptr n o, s', obs, v, h, ho, hr => by
    cases s' <;> simp only [sameSV] at h <;> try (cases h; done)
    split at h
    · rename_i e; rw [← e.1, ← e.2]; exact hr
    · cases h
  | .rptr n, s', obs, v, h, ho, hr => by
    cases s' <;> simp only [sameSV] at h <;> try (cases h; done)
    split at h
    · rename_i e; rw [← e]; exact hr
    · cases h
  | .fn f c, s', obs, v, h, ho, hr => by
    cases s' <;> simp only [sameSV] at h <;> try (cases h; done)
    split at h
    · rename_i e
      rw [← e]
      obtain ⟨vs, e2, h2⟩ := hr
      exact ⟨vs, e2, sameSVs_rel h ho h2⟩
    · cases h
  | .agg c, s', obs, v, h, ho, hr => by
    cases s' <;> simp only [sameSV] at h <;> try (cases h; done)
    obtain ⟨vs, e2, h2⟩ := hr
    exact ⟨vs, e2, sameSVs_rel h ho h2⟩
  | .tup c, s', obs, v, h, ho, hr => by
    cases s' <;> simp only [sameSV] at h <;> try (cases h; done)
    obtain ⟨vs, e2, h2⟩ := hr
    exact ⟨vs, e2, sameSVs_rel h ho h2⟩
  | .ifc t s, s', obs, v, h, ho, hr => by
    cases s' <;> simp only [sameSV] at h <;> try (cases h; done)
    split at h
    · rename_i e
      rw [← e]
      obtain ⟨u, e2, h2⟩ := hr
      exact ⟨u, e2, sameSV_rel h ho h2⟩
    · cases h
  | .adr k x, s', obs, v, h, ho, hr => by cases s' <;> simp only [sameSV] at h <;> cases h
  | .oel n k i o, s', obs, v, h, ho, hr => by cases s' <;> simp only [sameSV] at h <;> cases h
  | .gd p s, s', obs, v, h, ho, hr => by cases s' <;> simp only [sameSV] at h <;> cases h
  | .junk, s', obs, v, h, ho, hr => trivial
  | .yld, s', obs, v, h, ho, hr => by
    cases s' <;> simp only [sameSV] at h <;> try (cases h; done)
    exact hr
  | .aar k x, s', obs, v, h, ho, hr => by
    cases s' <;> simp only [sameSV] at h <;> try (cases h; done)
    split at h
    · rename_i k' x' e
      subst e
      cases h
      have : x' = x := ho _ (by simp [castL])
      rw [← this]; exact hr
    · cases h
theorem sameSVs_rel {C : Cx} : ∀ {l l' : List SV} {obs : List Prop} {vs : List Value}, sameSV.sameSVs l l' = some obs → (∀ p ∈ obs, p) → SV.rels C l' vs → SV.rels C l vs
  | [], l', obs, vs, h, ho, hr => by
    cases l' <;> simp only [sameSV.sameSVs] at h
    · exact hr
    · cases h
  | s :: l, l', obs, vs, h, ho, hr => by
    cases l' with
    | nil => simp only [sameSV.sameSVs] at h; cases h
    | cons s' l' =>
      simp only [sameSV.sameSVs] at h
      split at h
      · rename_i p q e1 e2
        cases h
        obtain ⟨v, r, e, h1, h2⟩ := hr
        exact ⟨v, r, e, sameSV_rel e1 (fun x hx => ho x (List.mem_append_left _ hx)) h1, sameSVs_rel e2 (fun x hx => ho x (List.mem_append_right _ hx)) h2⟩
      · cases h
end

/-! ### Fitting a state into a loop's head -/
def St.look (st : St) (i : Nat) : SV := match st.sl.lookup i with | some s => s | none => .junk

def PE.fit (st : St) (look : Nat → SV) : (l : List PE) → Option (List Prop × PE.Tup l)
  | [] => some ([], ())
  | .var i k :: l => match st.asData k (look i), PE.fit st look l with
    | some x, some (o, y) => some (o, (x, y))
    | _, _ => none
  | .own _ _ :: l => match PE.fit st look l with
    | some (o, y) => some (o, y)
    | none => none
  | .same i s :: l => match sameSV s (look i), PE.fit st look l with
    | some p, some (o, y) => some (p ++ o, y)
    | _, _ => none

/-- Where the rows at the head come from. -/
def PE.sig (look : Nat → SV) : List PE → List (Nat × SV)
  | [] => []
  | .own i n :: l => (n, look i) :: PE.sig look l
  | .var _ _ :: l => PE.sig look l
  | .same _ _ :: l => PE.sig look l

def srcOf (sig : List (Nat × SV)) (n : Nat) : SV := match sig.lookup n with | some s => s | none => .own n

def cellLook (st : St) (n : Nat) : Nat → SV := match st.hp[n]? with
  | some (some (.var _ cs)) => fun i => match cs[i]? with | some s => s | none => .junk
  | _ => fun _ => .junk

def OE.sig (st : St) : Nat → List OE → List (Nat × SV)
  | _, [] => []
  | n, .var _ p :: l => PE.sig (cellLook st n) p ++ OE.sig st (n + 1) l
  | n, _ :: l => OE.sig st (n + 1) l

def OE.fit (st : St) (sig : List (Nat × SV)) : (n : Nat) → (l : List OE) → Option (List Prop × OE.Tup l)
  | _, [] => some ([], ())
  | n, .dead :: l => match OE.fit st sig (n + 1) l with
    | some (o, z) => some (o, z)
    | none => none
  | n, .row e k :: l => match OE.fit st sig (n + 1) l with
    | some (o, z) => match srcOf sig n with
      | .own m => match st.hp[m]? with
        | some (some (.row e' k' xs)) => if h : k' = k then (if e' = e then some (o, (castL h xs, z)) else none) else none
        | _ => none
      | .cst c => if nilSlice c then some (o, ([], z)) else none
      | _ => none
    | none => none
  | n, .rowSame e k xs :: l => match OE.fit st sig (n + 1) l with
    | some (o, z) => match srcOf sig n with
      | .own m => match st.hp[m]? with
        | some (some (.row e' k' xs')) => if h : k' = k then (if e' = e then some ((castL h xs' = xs) :: o, z) else none) else none
        | _ => none
      | _ => none
    | none => none
  | n, .var t p :: l => match OE.fit st sig (n + 1) l, st.hp[n]? with
    | some (o, z), some (some (.var t' cs)) => if t' = t ∧ cs.length = p.length then
        match PE.fit st (cellLook st n) p with
        | some (q, y) => some (q ++ o, (y, z))
        | none => none
      else none
    | _, _ => none
  | n, .iter t :: l => match OE.fit st sig (n + 1) l, st.hp[n]? with
    | some (o, z), some (some (.siter t' pos)) => some ((t' = t) :: o, (pos, z))
    | _, _ => none
  | n, .iterSame t p :: l => match OE.fit st sig (n + 1) l, st.hp[n]? with
    | some (o, z), some (some (.siter t' pos)) => some ((t' = t) :: (pos = p) :: o, z)
    | _, _ => none
  | n, .dfr :: l => match OE.fit st sig (n + 1) l, st.hp[n]? with
    | some (o, z), some (some .dfr) => some (o, z)
    | _, _ => none

/-- The names that stand in what stays as it is. -/
def PE.names : List PE → List Nat
  | [] => []
  | .same _ s :: l => s.names ++ PE.names l
  | .var _ _ :: l => PE.names l
  | .own _ _ :: l => PE.names l

/-- Rows whose elements are taken as data. -/
def PE.taken (look : Nat → SV) : List PE → List Nat
  | [] => []
  | .var i _ :: l => (look i).names ++ PE.taken look l
  | .same _ _ :: l => PE.taken look l
  | .own _ _ :: l => PE.taken look l

def PE.places : List PE → List Nat
  | [] => []
  | .var i _ :: l => i :: PE.places l
  | .same i _ :: l => i :: PE.places l
  | .own i _ :: l => i :: PE.places l

def sameSrc : SV → SV → Bool
  | .own m, .own m' => m == m'
  | .cst c, .cst c' => nilSlice c && nilSlice c'
  | _, _ => false

def nodupB : List Nat → Bool
  | [] => true
  | a :: l => !l.contains a && nodupB l

/-- The rows and variables at the head, by their names in the state that is fitted. -/
def OE.srcs (sig : List (Nat × SV)) : Nat → List OE → List Nat
  | _, [] => []
  | n, .dead :: l => OE.srcs sig (n + 1) l
  | n, .row _ _ :: l => match srcOf sig n with | .own m => m :: OE.srcs sig (n + 1) l | _ => OE.srcs sig (n + 1) l
  | n, .rowSame _ _ _ :: l => match srcOf sig n with | .own m => m :: OE.srcs sig (n + 1) l | _ => OE.srcs sig (n + 1) l
  | n, .var _ _ :: l => n :: OE.srcs sig (n + 1) l
  | n, .iter _ :: l => n :: OE.srcs sig (n + 1) l
  | n, .iterSame _ _ :: l => n :: OE.srcs sig (n + 1) l
  | n, .dfr :: l => n :: OE.srcs sig (n + 1) l

def OE.allNames : List OE → List Nat
  | [] => []
  | .var _ p :: l => PE.names p ++ OE.allNames l
  | _ :: l => OE.allNames l

def OE.allTaken (st : St) : Nat → List OE → List Nat
  | _, [] => []
  | n, .var _ p :: l => PE.taken (cellLook st n) p ++ OE.allTaken st (n + 1) l
  | n, _ :: l => OE.allTaken st (n + 1) l

def OE.varB (sig : List (Nat × SV)) : Nat → List OE → Bool
  | _, [] => true
  | n, .var _ p :: l => (match sig.lookup n with | none => true | some _ => false) && (PE.places p == List.range p.length) && OE.varB sig (n + 1) l
  | n, .iter _ :: l => (match sig.lookup n with | none => true | some _ => false) && OE.varB sig (n + 1) l
  | n, .iterSame _ _ :: l => (match sig.lookup n with | none => true | some _ => false) && OE.varB sig (n + 1) l
  | n, .dfr :: l => (match sig.lookup n with | none => true | some _ => false) && OE.varB sig (n + 1) l
  | n, _ :: l => OE.varB sig (n + 1) l

def slNames (sl : Slots) : List Nat := SV.namesL (sl.map (·.2))
def dfNames : List DE → List Nat
  | [] => []
  | .mark n :: l => n :: dfNames l
  | .fn _ c :: l => SV.namesL c ++ dfNames l
def stkNames (l : List (Slots × List DE)) : List Nat := l.flatMap fun p => slNames p.1 ++ dfNames p.2

/-- Suspended frames: as they are. -/
def slFit : Slots → Slots → Option (List Prop)
  | [], _ => some []
  | (i, s) :: l, sl' => match sl'.lookup i with
    | some s' => match sameSV s s', slFit l sl' with
      | some p, some q => some (p ++ q)
      | _, _ => none
    | none => none
def dfFit : List DE → List DE → Option (List Prop)
  | [], [] => some []
  | .mark n :: l, .mark n' :: l' => if n' = n then dfFit l l' else none
  | .fn f c :: l, .fn f' c' :: l' => if f' = f then match sameSV.sameSVs c c', dfFit l l' with
      | some p, some q => some (p ++ q)
      | _, _ => none
    else none
  | _, _ => none
def stkFit : List (Slots × List DE) → List (Slots × List DE) → Option (List Prop)
  | [], [] => some []
  | s :: l, s' :: l' => match slFit s.1 s'.1, dfFit s.2 s'.2, stkFit l l' with
    | some p, some d, some q => some (p ++ (d ++ q))
    | _, _, _ => none
  | _, _ => none

def Jump.eqb : Jump → Jump → Bool
  | .ret, .ret => true
  | .exit i, .exit j => i == j
  | _, _ => false
def LS.eqb : LS → LS → Bool
  | .no, .no => true
  | .ready, .ready => true
  | .busy, .busy => true
  | .done i, .done j => i.eqb j
  | _, _ => false
theorem LS.eqb_eq {a b : LS} (h : a.eqb b = true) : a = b := by
  cases a <;> cases b <;> simp_all [LS.eqb]
  rename_i i j
  cases i <;> cases j <;> simp_all [Jump.eqb]

/-- Suspended frames, without what can't be held against itself. -/
def cleanSl : List Nat → Slots → Slots
  | _, [] => []
  | seen, (i, s) :: r => if seen.contains i then cleanSl seen r else
    match sameSV s s with
    | some _ => (i, s) :: cleanSl (i :: seen) r
    | none => cleanSl (i :: seen) r
def cleanStk (l : List (Slots × List DE)) : List (Slots × List DE) := l.map fun p => (cleanSl [] p.1, p.2)

def okSrc (st : St) (sig : List (Nat × SV)) (N : Nat) (n : Nat) : Bool := n < N && n < st.hp.length && (match srcOf sig n with | .own m => m == n | _ => false)

def St.fitB (st : St) (pl : List PE) (ol : List OE) (stk0 : List (Slots × List DE)) (df0 : List DE) (ls0 : LS) : Bool :=
  let sig := PE.sig st.look pl ++ OE.sig st 0 ol
  let srcs := OE.srcs sig 0 ol
  nodupB srcs && OE.varB sig 0 ol && sig.all (fun p => p.1 < ol.length && sameSrc (srcOf sig p.1) p.2) &&
  (PE.names pl ++ OE.allNames ol ++ (dfNames df0 ++ stkNames stk0)).all (okSrc st sig ol.length) &&
  (PE.taken st.look pl ++ OE.allTaken st 0 ol).all (fun m => !srcs.contains m) && (PE.places pl).all (fun i => i < st.n) && LS.eqb st.ls ls0

def St.fitK (st : St) (pl : List PE) (ol : List OE) (stk0 : List (Slots × List DE)) (df0 : List DE) (ls0 : LS) (K : PE.Tup pl → OE.Tup ol → Prop) : Prop :=
  if st.fitB pl ol stk0 df0 ls0 then
    match PE.fit st st.look pl, OE.fit st (PE.sig st.look pl ++ OE.sig st 0 ol) 0 ol, stkFit stk0 st.stk, dfFit df0 st.df with
    | some (o, y), some (o', z), some o'', some d => conj o (conj o' (conj o'' (conj d (K y z))))
    | _, _, _, _ => False
  else False

def headSt (st : St) (pl : List PE) (ol : List OE) (stk0 : List (Slots × List DE)) (df0 : List DE) (ls0 : LS) (y : PE.Tup pl) (z : OE.Tup ol) : St := { n := st.n, sl := PE.mk pl y, kn := [], stk := stk0, hp := OE.mk ol z, df := df0, ls := ls0, gl := st.gl }
end Go.Vc
end
