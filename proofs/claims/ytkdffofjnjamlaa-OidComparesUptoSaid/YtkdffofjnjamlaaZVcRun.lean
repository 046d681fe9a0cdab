/- Code, function bodies, contracts. -/
import Derived.Test.YtkdffofjnjamlaaZVcFit
namespace Go.Vc
open Go.RowKit

theorem wp_loop_rel {P : Program} {Q : Exit → Act → World → Prop} {a : Act} {w : World} {c : Code} (R : Nat → Act → World → Prop) (n₀ : Nat) (h₀ : R n₀ a w)
    (round : ∀ n a w, R n a w → c.wp P (Exit.then (fun a' w' => ∃ m, m < n ∧ R m a' w') Q) a w) : (Code.loop c).wp P Q a w := by
  intro b k cs
  have key : ∀ n a w, R n a w →
      ∃ e a' w', Q e a' w' ∧ Arrives P (lone (b.at a (.code c :: .inLoop c :: k)) cs w) b k cs e a' w' := by
    intro n
    induction n using Nat.strongRecOn with
    | _ n ih =>
      intro a w hI
      obtain ⟨e, a₁, w₁, hq, harr⟩ := round n a w hI b (.inLoop c :: k) cs
      cases e with
      | normal =>
        obtain ⟨m, hlt, hI₁⟩ := hq
        obtain ⟨e₂, a₂, w₂, hq₂, harr₂⟩ := ih m hlt a₁ w₁ hI₁
        exact ⟨e₂, a₂, w₂, hq₂, .of_steps (Steps.trans harr (.one step_inLoop)) harr₂⟩
      | exit id => exact ⟨_, a₁, w₁, hq, .pass (x := .inLoop c) rfl (fun _ _ => .inl (by simp)) harr⟩
      | goto l => exact ⟨_, a₁, w₁, hq, .pass (x := .inLoop c) rfl (fun _ _ => .inl (by simp)) harr⟩
      | ret => exact ⟨_, a₁, w₁, hq, .pass (x := .inLoop c) rfl (fun _ _ => .inl (by simp)) harr⟩
      | panic ch => exact ⟨_, a₁, w₁, hq, .pass (x := .inLoop c) rfl (fun _ _ => .inl (by simp)) harr⟩
      | outgrown => exact ⟨_, a₁, w₁, hq, .pass (x := .inLoop c) rfl (fun _ _ => .inl (by simp)) harr⟩
  obtain ⟨e, a', w', hq, harr⟩ := key n₀ a w h₀
  exact ⟨e, a', w', hq, .of_steps (.one step_loop) harr⟩

/-! ### What a loop may turn -/
def dstsOps (l : List Oper) : List Nat := l.filterMap (·.dst)
def dsts : Code → List Nat
  | .region _ ops _ => dstsOps ops.toList
  | .seq a b => dsts a ++ dsts b
  | .cond _ a b => dsts a ++ dsts b
  | .block _ c => dsts c
  | .loop c => dsts c
  | .scope c => dsts c
  | _ => []

/-- Of the slots that a piece of code sets: their types. -/
def dstTy : Code → Nat → Option Nat
  | .region _ ops _, i => (ops.toList.find? fun o => o.dst == some i && (match o.op with | .assign _ => true | _ => false)).map (·.type)
  | .seq a b, i => match dstTy a i with | some t => some t | none => dstTy b i
  | .cond _ a b, i => match dstTy a i with | some t => some t | none => dstTy b i
  | .block _ c, i => dstTy c i
  | .loop c, i => dstTy c i
  | .scope c, i => dstTy c i
  | _, _ => none

def opLoud (muts : List Nat) (o : Oper) : Bool :=
  match o.op with
  | .store .. => true
  | .call c => match c.callee with
    | .value (.func f) => muts.contains f
    | .value _ => true
    | _ => false
  | _ => false
def loud (muts : List Nat) : Code → Bool
  | .region _ ops _ => ops.toList.any (opLoud muts)
  | .seq a b => loud muts a || loud muts b
  | .cond _ a b => loud muts a || loud muts b
  | .block _ c => loud muts c
  | .loop c => loud muts c
  | .scope c => loud muts c
  | _ => false

/-- The slots at a loop's head; further rows for those that are nil. -/
def planSl (E : Ty) (asDat : List Nat) (body : Code) (ds : List Nat) : Nat → Slots → List PE × List OE
  | _, [] => ([], [])
  | N, (i, s) :: r =>
    if ds.contains i then
      match s with
      | .dat k _ => let q := planSl E asDat body ds N r; (.var i k :: q.1, q.2)
      | .own n => if asDat.contains i then
          match E.k ((dstTy body i).getD 0) with
          | some k => let q := planSl E asDat body ds N r; (.var i k :: q.1, q.2)
          | none => planSl E asDat body ds N r
        else let q := planSl E asDat body ds N r; (.own i n :: q.1, q.2)
      | .cst c => if nilSlice c then
          match E.d ((dstTy body i).getD 0), E.k ((dstTy body i).getD 0) with
          | .sl e, some (.sl k) => if asDat.contains i then let q := planSl E asDat body ds N r; (.var i (.sl k) :: q.1, q.2)
              else let q := planSl E asDat body ds (N + 1) r; (.own i N :: q.1, .row e k :: q.2)
          | _, _ => planSl E asDat body ds N r
        else planSl E asDat body ds N r
      | .sub _ k _ _ => let q := planSl E asDat body ds N r; (.var i (.sl k) :: q.1, q.2)
      | _ => planSl E asDat body ds N r
    else match sameSV s s with
      | some _ => let q := planSl E asDat body ds N r; (.same i s :: q.1, q.2)
      | none => planSl E asDat body ds N r

def ownNames : List PE → List Nat
  | [] => []
  | .own _ n :: l => n :: ownNames l
  | _ :: l => ownNames l

def cellNames (st : St) (n : Nat) : List Nat := match st.hp[n]? with | some (some (.var _ cs)) => SV.namesL cs | _ => []
def reach (st : St) : Nat → List Nat → List Nat
  | 0, l => l
  | k + 1, l => reach st k (l ++ l.flatMap (cellNames st))

def planCells (abs : Bool) : Nat → List SV → List PE
  | _, [] => []
  | i, s :: l => (match abs, s with
    | true, .dat k _ => .var i k
    | true, .own n => .own i n
    | _, s => .same i s) :: planCells abs (i + 1) l

def planOb (abs : Bool) (refd owned : List Nat) : Nat → List (Option Ob) → List OE
  | _, [] => []
  | n, ob :: l => (if refd.contains n then
      match ob with
      | some (.row e k xs) => if abs || owned.contains n then .row e k else .rowSame e k xs
      | some (.var t cs) => .var t (planCells abs 0 cs)
      | none => .dead
    else .dead) :: planOb abs refd owned (n + 1) l

structure Hints where
  asDat : List Nat := []
  muts : List Nat := []
  joins : List Nat := []

/-- The first region's number. -/
def firstId : Code → Option Nat
  | .region id _ _ => some id
  | .seq a b => match firstId a with | some i => some i | none => firstId b
  | .block _ c => firstId c
  | .loop c => firstId c
  | .scope c => firstId c
  | _ => none

def Hints.joined (H : Hints) (c : Code) : Bool := match firstId c with | some i => H.joins.contains i | none => false

def plan (E : Ty) (H : Hints) (body : Code) (st : St) : List PE × List OE :=
  let q := planSl E H.asDat body (dsts body) st.hp.length st.sl
  let abs := loud H.muts body
  let refd := reach st 3 (PE.names q.1 ++ ownNames q.1 ++ stkNames st.stk)
  (q.1, planOb abs refd (ownNames q.1 ++ (if abs then refd else [])) 0 st.hp ++ q.2)

def St.knowOp (st : St) (c : Operand) (b : Bool) : St := match c with | .tmp t => st.know t b | _ => st

def vcCode (E : Env) (H : Hints) : Code → St → (Ex → St → Prop) → Prop
  | .skip, st, k => k .normal st
  | .region _ ops draw, st, k =>
    if draw then vcDraw E ops st (fun st' => k .normal (st'.trim E.keep)) (fun s st' => k (.pan s) st')
    else vcOps E ops ops.toList st (fun st' => k .normal (st'.trim E.keep)) (fun s st' => k (.pan s) st')
  | .seq x y, st, k => if H.joined y then
      ∃ J : PE.Tup (plan E.toTy H x st).1 → OE.Tup (plan E.toTy H x st).2 → Prop,
        (vcCode E H x st fun e st' => match e with
          | .normal => if st'.n = st.n then st'.fitK (plan E.toTy H x st).1 (plan E.toTy H x st).2 st.stk J else False
          | .exit id => k (.exit id) st'
          | .ret => k .ret st'
          | .pan s => k (.pan s) st') ∧
        ∀ u z, PE.wf (plan E.toTy H x st).1 u → OE.wf (plan E.toTy H x st).2 z → J u z → vcCode E H y (headSt st (plan E.toTy H x st).1 (plan E.toTy H x st).2 st.stk u z) k
    else vcCode E H x st fun e st' => match e with
    | .normal => vcCode E H y st' k
    | .exit id => k (.exit id) st'
    | .ret => k .ret st'
    | .pan s => k (.pan s) st'
  | .cond c x y, st, k => match st.ev c with
    | .dat .bool b => (b = true → vcCode E H x (st.knowOp c true) k) ∧ (b = false → vcCode E H y (st.knowOp c false) k)
    | _ => False
  | .block id c, st, k => vcCode E H c st fun e st' => match e with
    | .normal => k .normal st'
    | .exit j => if j = id then k .normal st' else k (.exit j) st'
    | .ret => k .ret st'
    | .pan s => k (.pan s) st'
  | .loop c, st, k =>
    let p := plan E.toTy H c st
    ∃ (I : PE.Tup p.1 → OE.Tup p.2 → Prop) (μ : PE.Tup p.1 → OE.Tup p.2 → Nat),
      st.fitK p.1 p.2 st.stk I ∧
      ∀ y z, PE.wf p.1 y → OE.wf p.2 z → I y z → vcCode E H c (headSt st p.1 p.2 st.stk y z) fun e st' => match e with
        | .normal => if st'.n = st.n then st'.fitK p.1 p.2 st.stk (fun y' z' => I y' z' ∧ μ y' z' < μ y z) else False
        | .exit j => k (.exit j) st'
        | .ret => k .ret st'
        | .pan s => k (.pan s) st'
  | .exit id, st, k => k (.exit id) st
  | .scope c, st, k => vcCode E H c st k
  | .label _, st, k => k .normal st
  | .ret, st, k => k .ret st
  | _, _, _ => False

def CPost (B : Base) (fs : List (Array Value)) (k : Ex → St → Prop) : Exit → Act → World → Prop
  | .normal, a, w => ∃ st ρ, k .normal st ∧ StRel B ρ st a fs w
  | .exit id, a, w => ∃ st ρ, k (.exit id) st ∧ StRel B ρ st a fs w
  | .ret, a, w => ∃ st ρ, k .ret st ∧ StRel B ρ st a fs w
  | .panic ch, a, w => ∃ v s st ρ, ch = [{ v := v, recovered := false }] ∧ k (.pan s) st ∧ StRel B ρ st a fs w ∧ s.rel (cx B ρ st.hp w) v
  | .goto _, _, _ => False
  | .outgrown, _, _ => False

section
variable {E : Env} {H : Hints} {B : Base} {fs : List (Array Value)}

theorem knowT {ρ : Nat → Value} {st : St} {a : Act} {w : World} {t : Nat} {b : Bool} (h : StRel B ρ st a fs w) (hb : st.ev (.tmp t) = .dat .bool b) (hc : a.eval (.tmp t) = .bool b) : StRel B ρ (st.know t b) a fs w := by
  simp only [St.ev] at hb
  split at hb
  · rename_i s hs
    exact h.know (h.s.2 t s hs).1 hc
  · cases hb

theorem vcCode_sound (hE : E.Ok) : ∀ (c : Code) {ρ : Nat → Value} {st : St} {a : Act} {w : World} {k : Ex → St → Prop}, vcCode E H c st k → StRel B ρ st a fs w → c.wp E.P (CPost B fs k) a w
  | .skip, ρ, st, a, w, k, hk, h => wp_skip ⟨st, ρ, hk, h⟩
  | .region id ops draw, ρ, st, a, w, k, hk, h => by
    simp only [vcCode] at hk
    cases draw with
    | true =>
      rw [if_pos rfl] at hk
      exact vcDraw_sound hE hk h (fun st' ρ' a' w' hn hr => ⟨_, _, hn, hr.trim _⟩) (fun s st' ρ' v a' w' hp hr hv => ⟨v, s, st', ρ', rfl, hp, hr, hv⟩)
    | false =>
      rw [if_neg (by simp)] at hk
      exact wp_region_list (vcOps_sound hE _ hk h (fun st' ρ' a' w' hn hr => ⟨_, _, hn, hr.trim _⟩) (fun s st' ρ' v a' w' hp hr hv => ⟨v, s, st', ρ', rfl, hp, hr, hv⟩))
  | .seq x y, ρ, st, a, w, k, hk, h => by
    simp only [vcCode] at hk
    split at hk
    · obtain ⟨J, h1, h2⟩ := hk
      refine wp_seq (Code.wp_mono (fun e a' w' hq => ?_) (vcCode_sound hE x h1 h))
      cases e with
      | normal =>
        obtain ⟨st', ρ', h3, h4⟩ := hq
        simp only at h3
        split at h3
        case isFalse => exact h3.elim
        rename_i hn
        obtain ⟨ρ2, u, z, hJ, hu, hz, hr⟩ := fitK_sound h4 h3
        exact vcCode_sound hE y (h2 u z hu hz hJ) (by simpa [headSt, hn] using hr)
      | exit id => exact hq
      | ret => exact hq
      | panic ch => exact hq
      | goto l => exact hq.elim
      | outgrown => exact hq.elim
    refine wp_seq (Code.wp_mono (fun e a' w' hq => ?_) (vcCode_sound hE x hk h))
    cases e with
    | normal => obtain ⟨st', ρ', h1, h2⟩ := hq; exact vcCode_sound hE y h1 h2
    | exit id => exact hq
    | ret => exact hq
    | panic ch => exact hq
    | goto l => exact hq.elim
    | outgrown => exact hq.elim
  | .cond c x y, ρ, st, a, w, k, hk, h => by
    simp only [vcCode] at hk
    split at hk
    · rename_i b hb
      have hc := ev_rel h c
      rw [hb] at hc
      have hc := VRep_bool.1 hc
      have kno : ∀ b', b = b' → StRel B ρ (st.knowOp c b') a fs w := by
        intro b' e
        unfold St.knowOp
        split
        · subst e
          exact knowT h hb hc
        · exact h
      exact wp_cond_split hc (fun e => vcCode_sound hE x (hk.1 e) (kno true e)) (fun e => vcCode_sound hE y (hk.2 e) (kno false e))
    · exact hk.elim
  | .block id c, ρ, st, a, w, k, hk, h => by
    refine wp_block (Code.wp_mono (fun e a' w' hq => ?_) (vcCode_sound hE c hk h))
    cases e with
    | normal => exact hq
    | exit j =>
      obtain ⟨st', ρ', h1, h2⟩ := hq
      simp only [Exit.inBlock]
      simp only at h1
      split
      · rename_i e; rw [if_pos e] at h1; exact ⟨st', ρ', h1, h2⟩
      · rename_i e; rw [if_neg e] at h1; exact ⟨st', ρ', h1, h2⟩
    | ret => exact hq
    | panic ch => exact hq
    | goto l => exact hq.elim
    | outgrown => exact hq.elim
  | .loop c, ρ, st, a, w, k, hk, h => by
    simp only [vcCode] at hk
    obtain ⟨I, μ, h0, hround⟩ := hk
    obtain ⟨ρ0, y0, z0, hI0, hwy, hwz, hr0⟩ := fitK_sound h h0
    refine wp_loop_rel (fun n a w => ∃ ρ y z, n = μ y z ∧ I y z ∧ PE.wf _ y ∧ OE.wf _ z ∧ StRel B ρ (headSt st _ _ st.stk y z) a fs w) (μ y0 z0) ⟨ρ0, y0, z0, rfl, hI0, hwy, hwz, hr0⟩ ?_
    rintro n a w ⟨ρ, y, z, rfl, hI, hy, hz, hr⟩
    refine Code.wp_mono (fun e a' w' hq => ?_) (vcCode_sound hE c (hround y z hy hz hI) hr)
    cases e with
    | normal =>
      obtain ⟨st', ρ', h1, h2⟩ := hq
      simp only at h1
      split at h1
      case isFalse => exact h1.elim
      rename_i hn
      obtain ⟨ρ2, y2, z2, ⟨hI2, hlt⟩, hy2, hz2, hr2⟩ := fitK_sound h2 h1
      exact ⟨_, hlt, ρ2, y2, z2, rfl, hI2, hy2, hz2, by simpa [headSt, hn] using hr2⟩
    | exit id => exact hq
    | ret => exact hq
    | panic ch => exact hq
    | goto l => exact hq.elim
    | outgrown => exact hq.elim
  | .exit id, ρ, st, a, w, k, hk, h => wp_exit ⟨st, ρ, hk, h⟩
  | .scope c, ρ, st, a, w, k, hk, h => by
    refine wp_scope_straight (Code.wp_mono (fun e a' w' hq => ?_) (vcCode_sound hE c hk h))
    cases e <;> first | exact hq | exact hq.elim
  | .label l, ρ, st, a, w, k, hk, h => wp_label ⟨st, ρ, hk, h⟩
  | .ret, ρ, st, a, w, k, hk, h => wp_ret ⟨st, ρ, hk, h⟩
  | .rangeFunc .., _, _, _, _, _, hk, _ => hk.elim
  | .goto _, _, _, _, _, _, hk, _ => hk.elim
  | .refuse _, _, _, _, _, _, hk, _ => hk.elim
end
end Go.Vc
