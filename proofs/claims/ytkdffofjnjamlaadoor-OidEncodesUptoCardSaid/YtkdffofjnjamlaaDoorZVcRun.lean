/- Code, function bodies, contracts. -/
import Derived.Test.YtkdffofjnjamlaaDoorZVcRnd
set_option linter.unusedVariables false
set_option linter.unusedSimpArgs false
namespace Go.Vc
open Go.RowKit

theorem wp_loop_rel {F : Fence} {j : Nat} {P : Program} {Q : Exit → Act → World → Prop} {a : Act} {w : World} {c : Code} (R : Nat → Act → World → Prop) (n₀ : Nat) (h₀ : R n₀ a w)
    (round : ∀ n a w, R n a w → c.wpIn F j P (Exit.then (fun a' w' => ∃ m, m < n ∧ R m a' w') Q) a w) : (Code.loop c).wpIn F j P Q a w := by
  intro b k cs hro hb hr
  have key : ∀ n a w, R n a w →
      ∃ e a' w', Q e a' w' ∧ ArrivesIn (Machine.fenced P F) P (lone (b.atR a (.code c :: .inLoop c :: k)) cs w) b k cs e a' w' := by
    intro n
    induction n using Nat.strongRecOn with
    | _ n ih =>
      intro a w hI
      obtain ⟨e, a₁, w₁, hq, harr⟩ := round n a w hI b (.inLoop c :: k) cs hro hb hr
      cases e with
      | normal =>
        obtain ⟨m, hlt, hI₁⟩ := hq
        obtain ⟨e₂, a₂, w₂, hq₂, harr₂⟩ := ih m hlt a₁ w₁ hI₁
        exact ⟨e₂, a₂, w₂, hq₂, .of_steps (StepsIn.trans harr (.one (fenced_calm hb hr rfl) stepR_inLoop)) harr₂⟩
      | exit id => exact ⟨_, a₁, w₁, hq, .pass (x := .inLoop c) rfl (fun _ _ => .inl (by simp)) harr⟩
      | goto l => exact ⟨_, a₁, w₁, hq, .pass (x := .inLoop c) rfl (fun _ _ => .inl (by simp)) harr⟩
      | ret => exact ⟨_, a₁, w₁, hq, .pass (x := .inLoop c) rfl (fun _ _ => .inl (by simp)) harr⟩
      | panic ch => exact ⟨_, a₁, w₁, hq, .pass (x := .inLoop c) rfl (fun _ _ => .inl (by simp)) harr⟩
      | outgrown => exact ⟨_, a₁, w₁, hq, .pass (x := .inLoop c) rfl (fun _ _ => .inl (by simp)) harr⟩
  obtain ⟨e, a', w', hq, harr⟩ := key n₀ a w h₀
  exact ⟨e, a', w', hq, .of_steps (.one (fenced_calm hb hr rfl) stepR_loop) harr⟩

section
variable {P : Program} {b : Frame} {a : Act} {k : List Item} {cs : List Frame} {w : World}
theorem stepR_scope {c : Code} : step P (lone (b.atR a (.code (.scope c) :: k)) cs w) = .next (lone (b.atR a (.code c :: .inScope c :: k)) cs w) :=
  step_lone_go (by simp [stepG, stepG.exec, Frame.atR])
theorem stepR_inScope {c : Code} : step P (lone (b.atR a (.inScope c :: k)) cs w) = .next (lone (b.atR a k) cs w) :=
  step_lone_go (by simp [stepG, stepG.exec, Frame.atR])
end

theorem wpIn_scope {F : Fence} {j : Nat} {P : Program} {Q : Exit → Act → World → Prop} {a : Act} {w : World} {c : Code} (h : c.wpIn F j P (Exit.noGoto Q) a w) : (Code.scope c).wpIn F j P Q a w := by
  intro b k cs hro hb hr
  have h0 : (lone (b.atR a (.code (.scope c) :: k)) cs w).fenced P F := fenced_calm hb hr rfl
  obtain ⟨e, a₁, w₁, hq, harr⟩ := h b (.inScope c :: k) cs hro hb hr
  have hx : ∀ id, exitTo id (.inScope c :: k) = exitTo id k := fun id => by simp [exitTo]
  cases e with
  | normal => exact ⟨.normal, a₁, w₁, hq, .head h0 stepR_scope (StepsIn.trans harr (.one (fenced_calm hb hr rfl) stepR_inScope))⟩
  | exit id => exact ⟨.exit id, a₁, w₁, hq, fun k' hk => .head h0 stepR_scope (harr.1 k' (by rw [hx]; exact hk)), fun hr' hk => let ⟨k₁, h1, h2⟩ := harr.2 hr' (by rw [hx]; exact hk); ⟨k₁, h1, .head h0 stepR_scope h2⟩⟩
  | goto l => exact hq.elim
  | ret => exact ⟨_, a₁, w₁, hq, .of_steps (.one h0 stepR_scope) harr⟩
  | panic ch => exact ⟨_, a₁, w₁, hq, .of_steps (.one h0 stepR_scope) harr⟩
  | outgrown => exact ⟨_, a₁, w₁, hq, .of_steps (.one h0 stepR_scope) harr⟩

/-! ### What a loop may turn -/
def dstsOps (l : List Oper) : List Nat := l.filterMap (·.dst)
def dsts : Code → List Nat
  | .region _ ops _ => dstsOps ops.toList
  | .seq a b => dsts a ++ dsts b
  | .cond _ a b => dsts a ++ dsts b
  | .block _ c => dsts c
  | .loop c => dsts c
  | .scope c => dsts c
  | _ => []

/-- Of the slots that a piece of code sets: their types. -/
def dstTy : Code → Nat → Option Nat
  | .region _ ops _, i => (ops.toList.find? fun o => o.dst == some i && (match o.op with | .assign _ => true | _ => false)).map (·.type)
  | .seq a b, i => match dstTy a i with | some t => some t | none => dstTy b i
  | .cond _ a b, i => match dstTy a i with | some t => some t | none => dstTy b i
  | .block _ c, i => dstTy c i
  | .loop c, i => dstTy c i
  | .scope c, i => dstTy c i
  | _, _ => none

def opLoud (muts : List Nat) (o : Oper) : Bool :=
  match o.op with
  | .store .. => true
  | .call c => match c.callee with
    | .value (.func f) => muts.contains f
    | .value _ => true
    | _ => false
  | _ => false
def loud (muts : List Nat) : Code → Bool
  | .region _ ops _ => ops.toList.any (opLoud muts)
  | .seq a b => loud muts a || loud muts b
  | .cond _ a b => loud muts a || loud muts b
  | .block _ c => loud muts c
  | .loop c => loud muts c
  | .scope c => loud muts c
  | .rangeFunc .. => true
  | _ => false

/-- Does a piece of code take a text's next character? -/
def nexts : Code → Bool
  | .region _ ops _ => ops.toList.any fun o => match o.op with | .next _ _ => true | _ => false
  | .seq a b => nexts a || nexts b
  | .cond _ a b => nexts a || nexts b
  | .block _ c => nexts c
  | .loop c => nexts c
  | .scope c => nexts c
  | .rangeFunc .. => true
  | _ => false

/-- The slots at a loop's head; further rows for those that are nil. -/
def planSl (E : Ty) (asDat : List Nat) (body : Code) (ds : List Nat) : Nat → Slots → List PE × List OE
  | _, [] => ([], [])
  | N, (i, s) :: r =>
    if ds.contains i then
      match s with
      | .dat k _ => let q := planSl E asDat body ds N r; (.var i k :: q.1, q.2)
      | .own n => if asDat.contains i then
          match E.k ((dstTy body i).getD 0) with
          | some k => let q := planSl E asDat body ds N r; (.var i k :: q.1, q.2)
          | none => planSl E asDat body ds N r
        else let q := planSl E asDat body ds N r; (.own i n :: q.1, q.2)
      | .cst c => if nilSlice c then
          match E.d ((dstTy body i).getD 0), E.k ((dstTy body i).getD 0) with
          | .sl e, some (.sl k) => if asDat.contains i then let q := planSl E asDat body ds N r; (.var i (.sl k) :: q.1, q.2)
              else let q := planSl E asDat body ds (N + 1) r; (.own i N :: q.1, .row e k :: q.2)
          | _, _ => planSl E asDat body ds N r
        else match c with
          | .bool _ => let q := planSl E asDat body ds N r; (.var i .bool :: q.1, q.2)
          | _ => planSl E asDat body ds N r
      | .sub _ k _ _ => let q := planSl E asDat body ds N r; (.var i (.sl k) :: q.1, q.2)
      | _ => planSl E asDat body ds N r
    else match sameSV s s with
      | some _ => let q := planSl E asDat body ds N r; (.same i s :: q.1, q.2)
      | none => planSl E asDat body ds N r

def ownNames : List PE → List Nat
  | [] => []
  | .own _ n :: l => n :: ownNames l
  | _ :: l => ownNames l

def cellNames (st : St) (n : Nat) : List Nat := match st.hp[n]? with | some (some (.var _ cs)) => SV.namesL cs | _ => []
def reach (st : St) : Nat → List Nat → List Nat
  | 0, l => l
  | k + 1, l => reach st k (l ++ l.flatMap (cellNames st))

/-- What a nil of a variable's type is a row of. -/
def nilRow (E : Ty) (t : Nat) (c : Value) : Option (Nat × Kd) :=
  if nilSlice c then
    match E.d t with
    | .sl e => match E.k e with
      | some k => some (e, k)
      | none => none
    | _ => none
  else none

def planCells (E : Ty) (t : Nat) (abs : Bool) : Nat → Nat → List SV → List PE × List OE
  | _, _, [] => ([], [])
  | N, i, s :: l =>
    match abs, s with
    | true, .dat k _ => (.var i k :: (planCells E t abs N (i + 1) l).1, (planCells E t abs N (i + 1) l).2)
    | true, .own n => (.own i n :: (planCells E t abs N (i + 1) l).1, (planCells E t abs N (i + 1) l).2)
    | true, .cst (.bool _) => (.var i .bool :: (planCells E t abs N (i + 1) l).1, (planCells E t abs N (i + 1) l).2)
    | true, .cst c => match nilRow E t c with
      | some (e, k) => (.own i N :: (planCells E t abs (N + 1) (i + 1) l).1, .row e k :: (planCells E t abs (N + 1) (i + 1) l).2)
      | none => (.same i s :: (planCells E t abs N (i + 1) l).1, (planCells E t abs N (i + 1) l).2)
    | _, s => (.same i s :: (planCells E t abs N (i + 1) l).1, (planCells E t abs N (i + 1) l).2)

def planOb (E : Ty) (abs nx : Bool) (refd owned : List Nat) : Nat → Nat → List (Option Ob) → List OE × List OE
  | _, _, [] => ([], [])
  | N, n, ob :: l =>
    if refd.contains n then
      match ob with
      | some (.row e k xs) => ((if abs || owned.contains n then .row e k else .rowSame e k xs) :: (planOb E abs nx refd owned N (n + 1) l).1, (planOb E abs nx refd owned N (n + 1) l).2)
      | some (.var t cs) => let p := planCells E t abs N 0 cs
        (.var t p.1 :: (planOb E abs nx refd owned (N + p.2.length) (n + 1) l).1, p.2 ++ (planOb E abs nx refd owned (N + p.2.length) (n + 1) l).2)
      | some (.siter s pos) => ((if nx then .iter s else .iterSame s pos) :: (planOb E abs nx refd owned N (n + 1) l).1, (planOb E abs nx refd owned N (n + 1) l).2)
      | some .dfr => (.dfr :: (planOb E abs nx refd owned N (n + 1) l).1, (planOb E abs nx refd owned N (n + 1) l).2)
      | none => (.dead :: (planOb E abs nx refd owned N (n + 1) l).1, (planOb E abs nx refd owned N (n + 1) l).2)
    else (.dead :: (planOb E abs nx refd owned N (n + 1) l).1, (planOb E abs nx refd owned N (n + 1) l).2)

structure Hints where
  asDat : List Nat := []
  muts : List Nat := []
  joins : List Nat := []

/-- The first region's number. -/
def firstId : Code → Option Nat
  | .region id _ _ => some id
  | .seq a b => match firstId a with | some i => some i | none => firstId b
  | .block _ c => firstId c
  | .loop c => firstId c
  | .scope c => firstId c
  | _ => none

def Hints.joined (H : Hints) (c : Code) : Bool := match firstId c with | some i => H.joins.contains i | none => false

def plan (E : Ty) (H : Hints) (body : Code) (st : St) : List PE × List OE :=
  let q := planSl E H.asDat body (dsts body) st.hp.length st.sl
  let abs := loud H.muts body
  let refd := reach st 3 (PE.names q.1 ++ ownNames q.1 ++ (dfNames st.df ++ stkNames st.stk))
  let o := planOb E abs (nexts body) refd (ownNames q.1 ++ (if abs then refd else [])) (st.hp.length + q.2.length) 0 st.hp
  (q.1, o.1 ++ (q.2 ++ o.2))

def St.knowOp (st : St) (c : Operand) (b : Bool) : St := match c with | .tmp t => st.know t b | _ => st

/-- Code in a round. -/
def Env.inRound (E : Env) : Env := { E with yld := none, rnd := true }

/-- Behind a loop over a function. -/
def St.loopOut (st : St) (k : Ex → St → Prop) : Prop :=
  if st.ny then
    match st.ls with
    | .ready => k .normal { st with ls := .no }
    | .done .ret => k .ret { st with ls := .no }
    | .done (.exit id) => k (.exit id) { st with ls := .no }
    | _ => False
  else False

/-- A state behind a loop over a function: the frame has a mark more. -/
def St.marked (st : St) : Code → St
  | .rangeFunc .. => { st with hp := st.hp ++ [some .dfr], df := .mark st.hp.length :: st.df }
  | .block _ (.rangeFunc ..) => { st with hp := st.hp ++ [some .dfr], df := .mark st.hp.length :: st.df }
  | .seq _ (.rangeFunc ..) => { st with hp := st.hp ++ [some .dfr], df := .mark st.hp.length :: st.df }
  | .seq _ (.block _ (.rangeFunc ..)) => { st with hp := st.hp ++ [some .dfr], df := .mark st.hp.length :: st.df }
  | _ => st

/-- Each slot once, as it is now. -/
def uniqSl : List Nat → Slots → Slots
  | _, [] => []
  | seen, (i, s) :: r => if seen.contains i then uniqSl seen r else (i, s) :: uniqSl (i :: seen) r
def St.uniq (st : St) : St := { st with sl := uniqSl [] st.sl }

def vcCode (H : Hints) : Code → Env → St → (Ex → St → Prop) → Prop
  | .skip, _, st, k => k .normal st
  | .region _ ops draw, E, st, k =>
    if draw then vcDraw E ops st (fun st' => k .normal (st'.trim E.keep)) (fun s st' => k (.pan s) st')
    else vcOps E ops ops.toList st (fun st' => k .normal (st'.trim E.keep)) (fun s st' => k (.pan s) st')
  | .seq x y, E, st, k => if H.joined y then
      ∃ J : PE.Tup (plan E.toTy H x (st.marked x).uniq).1 → OE.Tup (plan E.toTy H x (st.marked x).uniq).2 → Prop,
        (vcCode H x E st fun e st' => match e with
          | .normal => if st'.n = st.n then st'.fitK (plan E.toTy H x (st.marked x).uniq).1 (plan E.toTy H x (st.marked x).uniq).2 (cleanStk st.stk) (st.marked x).df st.ls J else False
          | .exit id => k (.exit id) st'
          | .ret => k .ret st'
          | .pan s => k (.pan s) st') ∧
        ∀ u z, PE.wf (plan E.toTy H x (st.marked x).uniq).1 u → OE.wf (plan E.toTy H x (st.marked x).uniq).2 z → J u z → vcCode H y E (headSt st (plan E.toTy H x (st.marked x).uniq).1 (plan E.toTy H x (st.marked x).uniq).2 (cleanStk st.stk) (st.marked x).df st.ls u z) k
    else vcCode H x E st fun e st' => match e with
    | .normal => vcCode H y E st' k
    | .exit id => k (.exit id) st'
    | .ret => k .ret st'
    | .pan s => k (.pan s) st'
  | .cond c x y, E, st, k => match st.ev c with
    | .dat .bool b => (b = true → vcCode H x E (st.knowOp c true) k) ∧ (b = false → vcCode H y E (st.knowOp c false) k)
    | .cst (.bool true) => vcCode H x E st k
    | .cst (.bool false) => vcCode H y E st k
    | _ => False
  | .block id c, E, st, k => vcCode H c E st fun e st' => match e with
    | .normal => k .normal st'
    | .exit j => if j = id then k .normal st' else k (.exit j) st'
    | .ret => k .ret st'
    | .pan s => k (.pan s) st'
  | .loop c, E, st, k =>
    let p := plan E.toTy H c st.uniq
    ∃ (I : PE.Tup p.1 → OE.Tup p.2 → Prop) (μ : PE.Tup p.1 → OE.Tup p.2 → Nat),
      st.fitK p.1 p.2 (cleanStk st.stk) st.df st.ls I ∧
      ∀ y z, PE.wf p.1 y → OE.wf p.2 z → I y z → vcCode H c E (headSt st p.1 p.2 (cleanStk st.stk) st.df st.ls y z) fun e st' => match e with
        | .normal => if st'.n = st.n then st'.fitK p.1 p.2 (cleanStk st.stk) st.df st.ls (fun y' z' => I y' z' ∧ μ y' z' < μ y z) else False
        | .exit j => k (.exit j) st'
        | .ret => k .ret st'
        | .pan s => k (.pan s) st'
  | .exit id, _, st, k => k (.exit id) st
  | .scope c, E, st, k => vcCode H c E st k
  | .label _, _, st, k => k .normal st
  | .ret, _, st, k => k .ret st
  | .rangeFunc g ps assign body, E, st, k =>
    if E.rnd then False else
    match st.ls, st.ev g with
    | .no, .fn f cap => match E.seqs f with
      | some q => if st.ny && SV.nyL cap then
          q (vcRound (fun st k => vcCode H assign E.inRound st k) (fun st k => vcCode H body E.inRound st k) st.n ps.toList) (.yld :: cap)
            { st with hp := st.hp ++ [some .dfr], df := .mark st.hp.length :: st.df, ls := .ready } (fun _ st' => st'.loopOut k) (fun _ _ => False)
        else False
      | none => False
    | _, _ => False
  | _, _, _, _ => False

section
variable {H : Hints}

theorem knowT {B : Base} {fs : List Act} {ρ : Nat → Value} {st : St} {a : Act} {w : World} {t : Nat} {b : Bool} (h : StRel B ρ st a fs w) (hb : st.ev (.tmp t) = .dat .bool b) (hc : a.eval (.tmp t) = .bool b) : StRel B ρ (st.know t b) a fs w := by
  simp only [St.ev] at hb
  split at hb
  · rename_i s hs
    exact h.know (h.s.2 t s hs).1 hc
  · cases hb

theorem getElem?_snoc_lt {α : Type} {l : List α} {x : α} {i : Nat} (h : i < l.length) : (l ++ [x])[i]? = l[i]? := List.getElem?_append_left h

/-- A whole state goes over to another start. -/
theorem StRel.over {B B' : Base} {ρ : Nat → Value} {st : St} {a : Act} {fs : List Act} {w w' : World} (h : StRel B ρ st a fs w) (hny : st.ny = true) (le : (cx B ρ st.hp w).le0 (cx B' ρ st.hp w')) (ls : LS)
    (hk : Kept B'.S (B'.alt ls) w') (hb : ∀ n b, live st.hp n → blk (ρ n) = some b → w'.heap[b]? = w.heap[b]?)
    (ho : ∀ n b, live st.hp n → blk (ρ n) = some b → ((B'.alt ls).heap.size ≤ b ∨ B'.S b) ∧ ¬ B'.Fb b) (hf : ∀ b, B'.Fb b → b < (B'.alt ls).heap.size ∧ ¬ B'.S b) (hg : B'.gl = B.gl) : StRel B' ρ { st with ls := ls } a fs w' := by
  simp only [St.ny, Bool.and_eq_true] at hny
  obtain ⟨⟨⟨n1, n2⟩, n3⟩, n4⟩ := hny
  have le' := le.le
  refine ⟨⟨hk, fun n o hn => ?_, h.h.sep, ho, hf⟩, (h.s.wl n1).le le', h.kn, (h.k.wl n3).le le', (h.d.wl n2).le le', h.g.trans hg.symm⟩
  have hon : o.ny = true := by
    simp only [List.all_eq_true] at n4
    exact n4 _ (List.mem_iff_getElem?.2 ⟨n, hn⟩)
  exact ((h.h.obj n o hn).wl hon).le le' (fun b hbk => hb n b ⟨o, hn⟩ hbk)

theorem range_sound2 {E : Env} {gl : Gl} (hE : E.Ok gl) {B : Base} (hB : B.gl = gl) {fs : List Act} {ρ : Nat → Value} {st : St} {a : Act} {w : World} {k : Ex → St → Prop} {g : Operand} {ps : Array Nat} {assign body : Code}
    (h : StRel B ρ st a fs w) (hls : st.ls = .no) {f : Nat} {cap : List SV} (hev : st.ev g = .fn f cap) {q : CallSem → CallSem} (hq : E.seqs f = some q) (hny : st.ny = true) (hnc : SV.nyL cap = true)
    {A Bd : St → (Ex → St → Prop) → Prop} (hA : ∀ B', B'.gl = gl → RoundOk E.P B' ({ a with defers := { target := .collected w.heap.size, args := #[] } :: a.defers } :: fs) assign A) (hBd : ∀ B', B'.gl = gl → RoundOk E.P B' ({ a with defers := { target := .collected w.heap.size, args := #[] } :: a.defers } :: fs) body Bd)
    (hk : q (vcRound A Bd st.n ps.toList) (.yld :: cap) { st with hp := st.hp ++ [some .dfr], df := .mark st.hp.length :: st.df, ls := .ready } (fun _ st' => st'.loopOut k) (fun _ _ => False)) :
    (Code.rangeFunc g ps assign body).wpIn (fen none) 0 E.P (CPost B fs k) a w := by
  have hgr := ev_rel h g
  rw [hev] at hgr
  obtain ⟨cvs, hge, hcr⟩ := hgr
  refine wpIn_rangeFunc (fun fn _ => ?_)
  let r0 : Loop := { state := .ready, pending := none, fn, tmps := a.tmps, params := ps, assign, body, defers := w.heap.size }
  let wD : World := w.alloc (.deferred (some []))
  let W1 : World := wD.alloc (.loop r0)
  have hD : wD.heap.size = w.heap.size + 1 := by simp [wD]
  have hW : W1.heap.size = w.heap.size + 2 := by simp [W1, hD]
  -- the block for deferred calls, an object
  have T : Turn B ρ (upd ρ st.hp.length (.pointer (some ⟨w.heap.size, 0, none⟩))) st.hp (st.hp ++ [some .dfr]) w wD st.hp.length none :=
    Turn.new (World.grownBy_alloc w _ none) (fun b hb => by cases hb; exact Nat.le_refl _)
  have hR1 := h.turn T (fun ob hob => by
    rw [getElem?_snoc] at hob
    cases hob
    rw [upd_same]
    exact ⟨_, rfl, World.alloc_heap_new w _⟩)
  generalize hρ' : upd ρ st.hp.length (.pointer (some ⟨w.heap.size, 0, none⟩)) = ρ' at T hR1
  have hρm : ρ' st.hp.length = .pointer (some ⟨w.heap.size, 0, none⟩) := by rw [← hρ', upd_same]
  have hρo : ∀ n, n < st.hp.length → ρ' n = ρ n := fun n hn => by rw [← hρ']; exact upd_lt ρ _ _ n hn
  have hlive : ∀ n b, live (st.hp ++ [some .dfr]) n → blk (ρ' n) = some b → (n = st.hp.length ∧ b = w.heap.size) ∨ (live st.hp n ∧ blk (ρ n) = some b) := by
    rintro n b ⟨o, ho⟩ hb
    have hlt := (List.getElem?_eq_some_iff.1 ho).1
    simp only [List.length_append, List.length_singleton] at hlt
    by_cases e : n = st.hp.length
    · subst e
      rw [hρm] at hb
      cases hb
      exact .inl ⟨rfl, rfl⟩
    · rw [getElem?_snoc_lt (by omega)] at ho
      rw [hρo n (by omega)] at hb
      exact .inr ⟨⟨o, ho⟩, hb⟩
  have hh1 : ∀ b, b < wD.heap.size → W1.heap[b]? = wD.heap[b]? := fun b hb => Below.heap_alloc wD _ b hb
  have hh0 : ∀ b, b < w.heap.size → wD.heap[b]? = w.heap[b]? := fun b hb => Below.heap_alloc w _ b hb
  have halt : ∀ (ls : LS) (b : Nat), b < wD.heap.size → (W1.putObj wD.heap.size (.loop (Loop.as r0 ls))).heap[b]? = wD.heap[b]? := fun ls b hb => (World.putObj_heap_other (by omega)).trans (hh1 b hb)
  let B2 : Base := {
    alt := fun ls => W1.putObj wD.heap.size (.loop (Loop.as r0 ls))
    S := fun b => ∃ n, live (st.hp ++ [some .dfr]) n ∧ blk (ρ' n) = some b
    Fb := fun b => B.Fb b ∨ b = wD.heap.size
    lp := wD.heap.size
    gl := B.gl
    gok := fun ls => by
      have hg := h.gls
      rw [h.g] at hg
      refine hg.step (by rw [World.putObj_size, hW]; omega) (fun b hb _ => (halt ls b (by omega)).trans (hh0 b hb)) (fun b hb hF => ?_)
      rcases hF with (hF | hF) | ⟨n, hn, hbk⟩
      · exact .inl hF
      · omega
      · rcases hlive n b hn hbk with ⟨_, e⟩ | ⟨h1, h2⟩
        · omega
        · exact .inr ⟨n, h1, h2⟩ }
  have hl2 : InLoop B2 W1 r0 := ⟨fun _ => rfl, by show wD.heap.size < W1.heap.size; omega, .inr rfl⟩
  have own1 : ∀ n b, live st.hp n → blk (ρ n) = some b → b < w.heap.size ∧ ((B.alt .no).heap.size ≤ b ∨ B.S b) ∧ ¬ B.Fb b := fun n b hn hb => by
    refine ⟨h.h.live_block hn hb, ?_⟩
    have := h.h.own n b hn hb
    rw [hls] at this
    exact this
  have hfb1 : ∀ b, B.Fb b → b < w.heap.size := fun b hb => Nat.lt_of_lt_of_le (h.h.fb b hb).1 h.h.kept.size
  have hny1 : ({ st with hp := st.hp ++ [some .dfr] } : St).ny = true := by
    simp only [St.ny, Bool.and_eq_true] at hny ⊢
    refine ⟨hny.1, ?_⟩
    rw [List.all_append, Bool.and_eq_true]
    exact ⟨hny.2, rfl⟩
  have hR2 : StRel B2 ρ' { st with hp := st.hp ++ [some .dfr], ls := .ready } a fs W1 := by
    refine hR1.over (B' := B2) hny1 ⟨by show wD.heap.size ≤ W1.heap.size; omega, fun b hb _ => hh1 b hb, fun b hb hF => ?_, Nat.le_refl _, fun _ _ => rfl⟩ .ready ?_ (fun n b hn hb => ?_) (fun n b hn hb => ?_) (fun b hb => ?_) rfl
    · rcases hF with (hF | hF) | hF
      · exact .inl hF
      · simp only at hb; omega
      · exact .inr hF
    · refine ⟨rfl, rfl, rfl, by show (W1.putObj _ _).heap.size ≤ _; rw [World.putObj_size]; exact Nat.le_refl _, fun b hb _ => ?_⟩
      by_cases e : b = wD.heap.size
      · subst e
        show W1.heap[wD.heap.size]? = (W1.putObj _ _).heap[wD.heap.size]?
        rw [World.putObj_heap_same (by omega)]
        exact World.alloc_heap_new wD _
      · exact (World.putObj_heap_other e).symm
    · rcases hlive n b hn hb with ⟨_, e⟩ | ⟨h1, h2⟩
      · exact hh1 b (by omega)
      · exact hh1 b (by have := (own1 n b h1 h2).1; omega)
    · refine ⟨.inr ⟨n, hn, hb⟩, ?_⟩
      rcases hlive n b hn hb with ⟨_, e⟩ | ⟨h1, h2⟩
      · rintro (hF | hF)
        · have := hfb1 b hF; omega
        · omega
      · obtain ⟨h3, _, h4⟩ := own1 n b h1 h2
        rintro (hF | hF)
        · exact h4 hF
        · omega
    · refine ⟨?_, ?_⟩
      · show b < (W1.putObj _ _).heap.size
        rw [World.putObj_size, hW]
        rcases hb with hF | hF
        · have := hfb1 b hF; omega
        · omega
      · rintro ⟨n, hn, hbk⟩
        rcases hlive n b hn hbk with ⟨_, e⟩ | ⟨h1, h2⟩
        · rcases hb with hF | hF
          · have := hfb1 b hF; omega
          · omega
        · obtain ⟨h3, _, h4⟩ := own1 n b h1 h2
          rcases hb with hF | hF
          · exact h4 hF
          · omega
  let a2 : Act := { a with defers := { target := .collected w.heap.size, args := #[] } :: a.defers }
  have hR3 : StRel B2 ρ' { st with hp := st.hp ++ [some .dfr], df := .mark st.hp.length :: st.df, ls := .ready } a2 fs W1 :=
    ⟨hR2.h, hR2.s, hR2.kn, hR2.k, ⟨_, _, rfl, by simp, hρm, hR2.d⟩, hR2.g⟩
  have hcr2 : SV.rels (cx B2 ρ' (st.hp ++ [some .dfr]) W1) (.yld :: cap) (.func (.yield wD.heap.size) #[] #[] :: cvs) := by
    refine ⟨_, _, rfl, rfl, ?_⟩
    have h1 : SV.rels (cx B ρ' (st.hp ++ [some .dfr]) wD) cap cvs := SV.rels.le T.le hcr
    refine SV.rels.le (C := (cx B ρ' (st.hp ++ [some .dfr]) wD).wl wD.heap.size) (C' := cx B2 ρ' (st.hp ++ [some .dfr]) W1) ⟨by show wD.heap.size ≤ W1.heap.size; omega, fun b hb _ => hh1 b hb, fun b hb hF => ?_, Nat.le_refl _, fun _ _ => rfl, rfl⟩ (SV.rels.wl hnc h1)
    rcases hF with (hF | hF) | hF
    · exact .inl hF
    · have : b < wD.heap.size := hb
      omega
    · exact .inr hF
  have hB2 : B2.gl = gl := hB
  have hyo : YieldOk E.P B2 (a2 :: fs) (vcRound A Bd st.n ps.toList) := round_sound hl2 (hA B2 hB2) (hBd B2 hB2) rfl rfl rfl rfl h.s.1
  obtain ⟨henter, hseq⟩ := hE.seq f q hq
  have hcalls := hseq _ _ _ _ _ B2 ρ' a2 fs W1 _ hB2 hyo hk hR3 hcr2
  refine ⟨wD.heap.size, [{ target := .collected w.heap.size, args := #[] }], W1, { target := .fn (.func f) cvs.toArray, args := #[.func (.yield wD.heap.size) #[] #[]] }, W1, f, (.func (.yield wD.heap.size) #[] #[] :: cvs).toArray, W1, ?_, ?_, fun _ _ => trivial, ?_, fun h => (by cases h), ?_⟩
  · have := run_enterLoop_outer (P := E.P) (w := w) fn a.tmps ps assign body
    rw [← hD] at this
    exact this
  · have hc : ∀ v : Value, a.eval (.const v) = v := fun _ => rfl
    simp [resolve, rangeCall, hge, hc, Deferred.ofValue]
  · simp only [invoke]
    rw [henter]
    congr 2
    simp
  · have h3 : CallsIn Fence.wide 0 E.P _ _ _ _ := callsIn_wide.2 hcalls
    refine CallsIn.mono (F := fen none) h3 (fun e w3 hw => ?_)
    cases e with
    | panicked ch => obtain ⟨_, _, _, _, _, hk2, _⟩ := hw; exact hk2.elim
    | outgrown => exact hw.elim
    | returned v =>
      obtain ⟨s, st3, ρ3, hk3, hR4, _⟩ := hw
      unfold St.loopOut at hk3
      split at hk3
      case isFalse => exact hk3.elim
      rename_i hny3
      have hat := hR4.rec_at hl2
      -- the way back
      have back : ∀ r : Loop, StRel B ρ3 { st3 with ls := .no } a2 fs (w3.putObj wD.heap.size (.loop r)) := by
        intro r
        have hk4 := hR4.h.kept
        have hsz : w.heap.size + 2 ≤ w3.heap.size := by
          have := hk4.size
          have h5 : (B2.alt st3.ls).heap.size = W1.heap.size := World.putObj_size
          omega
        have low : ∀ b, b < w.heap.size → (¬ ∃ n, live st.hp n ∧ blk (ρ n) = some b) → w3.heap[b]? = w.heap[b]? := fun b hb hn => by
          have h6 := hk4.block b (by show b < (W1.putObj _ _).heap.size; rw [World.putObj_size, hW]; omega) (by
            rintro ⟨n, h7, h8⟩
            rcases hlive n b h7 h8 with ⟨_, e⟩ | ⟨h9, h10⟩
            · omega
            · exact hn ⟨n, h9, h10⟩)
          rw [h6]
          exact (halt st3.ls b (by omega)).trans (hh0 b hb)
        refine hR4.over (B' := B) hny3 ⟨by simp, fun b hb hF => World.putObj_heap_other (fun e => hF (.inl (.inr e))), fun b _ hF => ?_, Nat.le_refl _, fun _ _ => rfl⟩ .no ?_ (fun n b hn hb => World.putObj_heap_other (fun e => (hR4.h.own n b hn hb).2 (.inr e))) (fun n b hn hb => ?_) (fun b hb => ?_) rfl
        · rcases hF with hF | hF
          · exact .inl (.inl hF)
          · exact .inr hF
        · have h9 := h.h.kept
          rw [hls] at h9
          refine ⟨hk4.os.trans h9.os, hk4.tape.trans h9.tape, hk4.output.trans h9.output, by show _ ≤ (w3.putObj _ _).heap.size; rw [World.putObj_size]; exact Nat.le_trans h9.size (by omega), fun b hb hn => ?_⟩
          have hbw : b < w.heap.size := Nat.lt_of_lt_of_le hb h9.size
          refine (show (w3.putObj wD.heap.size (.loop r)).heap[b]? = _ from (World.putObj_heap_other (by omega)).trans ((low b hbw ?_).trans (h9.block b hb hn)))
          rintro ⟨n, h10, h11⟩
          rcases (own1 n b h10 h11).2.1 with h12 | h12
          · omega
          · exact hn h12
        · obtain ⟨h10, h11⟩ := hR4.h.own n b hn hb
          have h9 := h.h.kept.size
          rw [hls] at h9
          refine ⟨?_, fun hF => h11 (.inl hF)⟩
          rcases h10 with h10 | ⟨m, h12, h13⟩
          · have h5 : (B2.alt st3.ls).heap.size = W1.heap.size := World.putObj_size
            exact .inl (by omega)
          · rcases hlive m b h12 h13 with ⟨_, e⟩ | ⟨h14, h15⟩
            · exact .inl (by omega)
            · exact (own1 m b h14 h15).2.1
        · have := h.h.fb b hb
          rw [hls] at this
          exact this
      split at hk3
      · rename_i e
        refine ⟨none, w3.putObj wD.heap.size (.loop { Loop.as r0 LS.ready with state := .exhausted }), ?_, _, ρ3, hk3, back _⟩
        have := run_endLoop (P := E.P) hat (by rw [e]; simp [Loop.as])
        rw [e] at this
        exact this
      · rename_i e
        refine ⟨some .ret, w3.putObj wD.heap.size (.loop { Loop.as r0 (LS.done .ret) with state := .exhausted }), ?_, wpIn_ret ⟨_, ρ3, hk3, back _⟩⟩
        have := run_endLoop (P := E.P) hat (by rw [e]; simp [Loop.as])
        rw [e] at this
        exact this
      · rename_i id e
        refine ⟨some (.exit id), w3.putObj wD.heap.size (.loop { Loop.as r0 (LS.done (.exit id)) with state := .exhausted }), ?_, wpIn_exit ⟨_, ρ3, hk3, back _⟩⟩
        have := run_endLoop (P := E.P) hat (by rw [e]; simp [Loop.as])
        rw [e] at this
        exact this
      · exact hk3.elim

theorem vcCode_sound {gl : Gl} : ∀ (c : Code) {E : Env} (hE : E.Ok gl) {B : Base} (hB : B.gl = gl) {fs : List Act} (hy : ∀ hd, E.yld = some hd → YieldOk E.P B fs hd) {r : Option Nat} (hr : E.rnd = false → r = none) {ρ : Nat → Value} {st : St} {a : Act} {w : World} {k : Ex → St → Prop},
    vcCode H c E st k → StRel B ρ st a fs w → c.wpIn (fen r) 0 E.P (CPost B fs k) a w
  | .skip, E, hE, B, hB, fs, hy, r, hr, ρ, st, a, w, k, hk, h => wpIn_skip ⟨st, ρ, hk, h⟩
  | .region id ops draw, E, hE, B, hB, fs, hy, r, hr, ρ, st, a, w, k, hk, h => by
    simp only [vcCode] at hk
    cases draw with
    | true =>
      rw [if_pos rfl] at hk
      exact vcDraw_sound hE hB CPost.noOut hk h (fun st' ρ' a' w' hn hr => ⟨_, _, hn, hr.trim _⟩) (fun s st' ρ' v a' w' hp hr hv => ⟨v, s, st', ρ', rfl, hp, hr, hv⟩)
    | false =>
      rw [if_neg (by simp)] at hk
      exact wpIn_region_list (gList_inn (vcOps_sound (L := Lg.inn E.P r) hE hB (fun hd he => ⟨trivial, hy hd he⟩) hr _ hk h (fun st' ρ' a' w' hn hr => ⟨_, _, hn, hr.trim _⟩) (fun s st' ρ' v a' w' hp hr hv => ⟨v, s, st', ρ', rfl, hp, hr, hv⟩)))
  | .seq x y, E, hE, B, hB, fs, hy, r, hr, ρ, st, a, w, k, hk, h => by
    simp only [vcCode] at hk
    split at hk
    · obtain ⟨J, h1, h2⟩ := hk
      refine wpIn_seq (wpIn_mono (vcCode_sound x hE hB hy hr h1 h) (fun e a' w' hq => ?_))
      cases e with
      | normal =>
        obtain ⟨st', ρ', h3, h4⟩ := hq
        simp only at h3
        split at h3
        case isFalse => exact h3.elim
        rename_i hn
        obtain ⟨ρ2, u, z, hJ, hu, hz, hr2⟩ := fitK_sound h4 h3
        exact vcCode_sound y hE hB hy hr (h2 u z hu hz hJ) (by simpa [headSt, hn, h4.g, h.g] using hr2)
      | exit id => exact hq
      | ret => exact hq
      | panic ch => exact hq
      | goto l => exact hq.elim
      | outgrown => exact hq.elim
    refine wpIn_seq (wpIn_mono (vcCode_sound x hE hB hy hr hk h) (fun e a' w' hq => ?_))
    cases e with
    | normal => obtain ⟨st', ρ', h1, h2⟩ := hq; exact vcCode_sound y hE hB hy hr h1 h2
    | exit id => exact hq
    | ret => exact hq
    | panic ch => exact hq
    | goto l => exact hq.elim
    | outgrown => exact hq.elim
  | .cond c x y, E, hE, B, hB, fs, hy, r, hr, ρ, st, a, w, k, hk, h => by
    simp only [vcCode] at hk
    have hc := ev_rel h c
    split at hk
    · rename_i b hb
      rw [hb] at hc
      have hc := VRep_bool.1 hc
      have kno : ∀ b', b = b' → StRel B ρ (st.knowOp c b') a fs w := by
        intro b' e
        unfold St.knowOp
        split
        · subst e
          exact knowT h hb hc
        · exact h
      exact wpIn_cond_split hc (fun e => vcCode_sound x hE hB hy hr (hk.1 e) (kno true e)) (fun e => vcCode_sound y hE hB hy hr (hk.2 e) (kno false e))
    · rename_i hb
      rw [hb] at hc
      exact wpIn_cond_true hc (vcCode_sound x hE hB hy hr hk h)
    · rename_i hb
      rw [hb] at hc
      exact wpIn_cond_false hc (vcCode_sound y hE hB hy hr hk h)
    · exact hk.elim
  | .block id c, E, hE, B, hB, fs, hy, r, hr, ρ, st, a, w, k, hk, h => by
    refine wpIn_block (wpIn_mono (vcCode_sound c hE hB hy hr hk h) (fun e a' w' hq => ?_))
    cases e with
    | normal => exact hq
    | exit j =>
      obtain ⟨st', ρ', h1, h2⟩ := hq
      simp only [Exit.inBlock]
      simp only at h1
      split
      · rename_i e; rw [if_pos e] at h1; exact ⟨st', ρ', h1, h2⟩
      · rename_i e; rw [if_neg e] at h1; exact ⟨st', ρ', h1, h2⟩
    | ret => exact hq
    | panic ch => exact hq
    | goto l => exact hq.elim
    | outgrown => exact hq.elim
  | .loop c, E, hE, B, hB, fs, hy, r, hr, ρ, st, a, w, k, hk, h => by
    simp only [vcCode] at hk
    obtain ⟨I, μ, h0, hround⟩ := hk
    obtain ⟨ρ0, y0, z0, hI0, hwy, hwz, hr0⟩ := fitK_sound h h0
    refine wp_loop_rel (fun n a w => ∃ ρ y z, n = μ y z ∧ I y z ∧ PE.wf _ y ∧ OE.wf _ z ∧ StRel B ρ (headSt st _ _ (cleanStk st.stk) st.df st.ls y z) a fs w) (μ y0 z0) ⟨ρ0, y0, z0, rfl, hI0, hwy, hwz, hr0⟩ ?_
    rintro n a w ⟨ρ, y, z, rfl, hI, hyw, hz, hrel⟩
    refine wpIn_mono (vcCode_sound c hE hB hy hr (hround y z hyw hz hI) hrel) (fun e a' w' hq => ?_)
    cases e with
    | normal =>
      obtain ⟨st', ρ', h1, h2⟩ := hq
      simp only at h1
      split at h1
      case isFalse => exact h1.elim
      rename_i hn
      obtain ⟨ρ2, y2, z2, ⟨hI2, hlt⟩, hy2, hz2, hr2⟩ := fitK_sound h2 h1
      exact ⟨_, hlt, ρ2, y2, z2, rfl, hI2, hy2, hz2, by simpa [headSt, hn, h2.g, h.g] using hr2⟩
    | exit id => exact hq
    | ret => exact hq
    | panic ch => exact hq
    | goto l => exact hq.elim
    | outgrown => exact hq.elim
  | .exit id, E, hE, B, hB, fs, hy, r, hr, ρ, st, a, w, k, hk, h => wpIn_exit ⟨st, ρ, hk, h⟩
  | .scope c, E, hE, B, hB, fs, hy, r, hr, ρ, st, a, w, k, hk, h => by
    refine wpIn_scope (wpIn_mono (vcCode_sound c hE hB hy hr hk h) (fun e a' w' hq => ?_))
    cases e <;> first | exact hq | exact hq.elim
  | .label l, E, hE, B, hB, fs, hy, r, hr, ρ, st, a, w, k, hk, h => wpIn_label ⟨st, ρ, hk, h⟩
  | .ret, E, hE, B, hB, fs, hy, r, hr, ρ, st, a, w, k, hk, h => wpIn_ret ⟨st, ρ, hk, h⟩
  | .rangeFunc g ps assign body, E, hE, B, hB, fs, hy, r, hr, ρ, st, a, w, k, hk, h => by
    simp only [vcCode] at hk
    split at hk
    · exact hk.elim
    rename_i hrnd
    have hr0 := hr (by simpa using hrnd)
    subst hr0
    split at hk
    · rename_i f cap hls hev
      split at hk
      · rename_i q hq
        split at hk
        · rename_i hny
          simp only [Bool.and_eq_true] at hny
          refine range_sound2 hE hB h hls hev hq hny.1 hny.2 (fun B' hB' => ?_) (fun B' hB' => ?_) hk
          · intro st' a' w' ρ' k' a1 hk' h'
            exact vcCode_sound assign (E := E.inRound) ⟨hE.ty, hE.fn, hE.seq, hE.df, hE.mixed⟩ hB' (fun hd he => by cases he) (fun he => by cases he) hk' h'
          · intro st' a' w' ρ' k' a1 hk' h'
            exact vcCode_sound body (E := E.inRound) ⟨hE.ty, hE.fn, hE.seq, hE.df, hE.mixed⟩ hB' (fun hd he => by cases he) (fun he => by cases he) hk' h'
        · exact hk.elim
      · exact hk.elim
    · exact hk.elim
  | .goto _, E, hE, B, hB, fs, hy, r, hr, ρ, st, a, w, k, hk, h => by simp only [vcCode] at hk
  | .refuse _, E, hE, B, hB, fs, hy, r, hr, ρ, st, a, w, k, hk, h => by simp only [vcCode] at hk
end
end Go.Vc
