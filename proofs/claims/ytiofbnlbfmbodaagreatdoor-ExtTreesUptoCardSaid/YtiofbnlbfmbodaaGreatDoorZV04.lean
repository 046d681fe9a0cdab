/- Texts of a verified walk, led together: Ord, Code, Loop, Fit. -/
import Derived.OrdersHeld
import Derived.Test.YtiofbnlbfmbodaaGreatDoorZV03
set_option linter.unusedVariables false
set_option linter.unusedSimpArgs false
section
namespace Go.Vc
open Go
section
variable {P : Program} {ops : Array Oper} {Q : Exit → Act → World → Prop} {md : Region.Mode} {S : World → Prop}
def Closed (md : Region.Mode) (ops : Array Oper) (listed : Array Bool) : Prop := ∀ k o, ops[k]? = some o → listed.getD k false = true → ∀ e ∈ o.after, Region.binds md e = true → listed.getD e.on false = true
theorem closed_start (md : Region.Mode) (ops : Array Oper) (n : Nat) : Closed md ops (Array.replicate n false) := by
  intro k o _ h
  by_cases hk : k < n <;> simp [hk] at h
theorem closed_set {listed : Array Bool} {j : Nat} (h : Closed md ops listed) (hj : j ∈ Region.ready md ops listed) : Closed md ops (listed.setIfInBounds j true) := by
  intro k o ho hk e he hb
  obtain ⟨_, oj, hoj, hall⟩ := mem_ready.1 hj
  by_cases hkj : k = j
  . subst hkj
    rw [hoj] at ho
    cases ho
    exact getD_set_true (hall e he hb)
  . refine getD_set_true (h k o ho ?_ e he hb)
    have := getD_set_ne (listed := listed) false (Ne.symm hkj)
    rw [this] at hk
    exact hk
def waitsB (md : Region.Mode) (ops : Array Oper) (i : Nat) : Nat → Nat → Bool
  | 0, _ => false
  | f + 1, j => match ops[j]? with
    | some o => o.after.any fun e => Region.binds md e && (Nat.beq e.on i || waitsB md ops i f e.on)
    | none => false
theorem waits_edge {listed : Array Bool} (hc : Closed md ops listed) {i : Nat} (hi : listed.getD i false = false) : ∀ (f j : Nat), waitsB md ops i f j = true → ∃ o, ops[j]? = some o ∧ ∃ e ∈ o.after, Region.binds md e = true ∧ listed.getD e.on false = false
  | 0, _, h => by cases h
  | f + 1, j, h => by
    unfold waitsB at h
    split at h
    . rename_i o ho
      rw [Array.any_eq_true'] at h
      obtain ⟨e, he, h⟩ := h
      obtain ⟨hb, h⟩ := Bool.and_eq_true_iff.1 h
      refine ⟨o, ho, e, he, hb, ?_⟩
      rcases Bool.or_eq_true_iff.1 h with h | h
      . rw [Nat.eq_of_beq_eq_true h]; exact hi
      . obtain ⟨o', ho', e', he', hb', hl⟩ := waits_edge hc hi f e.on h
        cases hx : listed.getD e.on false with
        | false => rfl
        | true =>
          have := hc _ _ ho' hx e' he' hb'
          rw [hl] at this
          cases this
    . cases h
theorem waits_late {listed : Array Bool} (hc : Closed md ops listed) {i f j : Nat} (hi : i ∈ Region.ready md ops listed) (hw : waitsB md ops i f j = true) : j ∉ Region.ready md ops listed := by
  intro hj
  have h0 := (mem_ready.1 hi).1
  have h1 : listed.getD i false = false := by
    by_cases hlt : i < listed.size
    . simp [hlt] at h0 ⊢; exact h0
    . simp [hlt]
  obtain ⟨o, ho, e, he, hb, hl⟩ := waits_edge hc h1 f j hw
  obtain ⟨_, o', ho', hall⟩ := mem_ready.1 hj
  rw [ho] at ho'
  cases ho'
  have := hall e he hb
  rw [hl] at this
  cases this
def wpLast (P : Program) (md : Region.Mode) (ops : Array Oper) (Q : Exit → Act → World → Prop) (S : World → Prop) (x : Nat) : Nat → Array Bool → Act → World → Prop
  | 0, listed, a, w => Region.ready md ops listed = [] ∧ Q .normal a w
  | f + 1, listed, a, w => (Region.ready md ops listed = [] → Q .normal a w) ∧
      ∀ i ∈ Region.ready md ops listed, wpOp P ops Q i (fun a' w' => (i ≠ x → S w') ∧ wpLast P md ops Q S x f (listed.setIfInBounds i true) a' w') a w
theorem wpAny_of_last {x : Nat} : ∀ (f : Nat) (listed : Array Bool) (a : Act) (w : World), wpLast P md ops Q S x f listed a w → wpAny P md ops Q f listed a w
  | 0, _, _, _, h => h
  | f + 1, _, _, _, h => ⟨h.1, fun i hi => wpOp_mono (fun a' w' h' => wpAny_of_last f _ a' w' h'.2) (h.2 i hi)⟩
theorem wpLast_done {x : Nat} {listed : Array Bool} {a : Act} {w : World} (hr : Region.ready md ops listed = []) (h : Q .normal a w) : ∀ f, wpLast P md ops Q S x f listed a w
  | 0 => ⟨hr, h⟩
  | _ + 1 => ⟨fun _ => h, fun i hi => by rw [hr] at hi; cases hi⟩
theorem wpLast_first {x i fu : Nat} {oi : Oper} {v : Value} (hi : ops[i]? = some oi) (hsel : ∀ (j : Nat) (o : Oper) cs b, ops[j]? = some o → o.op ≠ .select cs b)
    (hQ : ∀ c a w, Q (.panic c) (a.put oi.dst v) w → Q (.panic c) a w) (hx : ops.size ≤ x ∨ waitsB md ops i fu x = true) : ∀ (f : Nat) (listed : Array Bool) (a : Act) (w : World), Closed md ops listed →
      (∀ j oj, ops[j]? = some oj → j ≠ i → listed.getD j true = false → (∀ e ∈ oj.after, Region.binds md e = true → e.on ≠ i) → oi.apart ops oj = true) →
      i ∈ Region.ready md ops listed → YieldsIf P ops S oi v a → S w → wpLast P md ops Q S x f (listed.setIfInBounds i true) (a.put oi.dst v) w → wpLast P md ops Q S x (f + 1) listed a w
  | f, listed, a, w, hcl, hfree, hr, hy, hS, H => by
    refine ⟨fun h => absurd hr (by rw [h]; exact List.not_mem_nil), fun j hj => ?_⟩
    by_cases hji : j = i
    . subst hji
      exact hy.wpOp hi hS ⟨fun _ => hS, H⟩
    have hjr := ready_mono hj hji
    match f, H with
    | 0, H =>
      rw [H.1] at hjr
      cases hjr
    | f + 1, H =>
      obtain ⟨hjun, oj, hoj, hall⟩ := mem_ready.1 hj
      have hjx : j ≠ x := by
        rintro rfl
        rcases hx with hx | hx
        . have := (Array.getElem?_eq_some_iff.1 hoj).1
          omega
        . exact waits_late hcl hr hx hj
      have hnot : ∀ e ∈ oj.after, Region.binds md e = true → e.on ≠ i := by
        intro e he hb heq
        have h1 := hall e he hb
        have h0 := (mem_ready.1 hr).1
        rw [heq] at h1
        rcases Nat.lt_or_ge i listed.size with h' | h'
        . simp [h'] at h0 h1
          rw [h0] at h1
          cases h1
        . simp [Array.getElem?_eq_none h'] at h1
      have h2 := wpOp_putIf hoj (hfree j oj hoj hji hjun hnot) (fun cs b => hsel i oi cs b hi) (fun cs b => hsel j oj cs b hoj) hQ hy (H.2 j hjr)
      have hir : i ∈ Region.ready md ops (listed.setIfInBounds j true) := ready_mono hr (Ne.symm hji)
      have hfree' : ∀ k ok, ops[k]? = some ok → k ≠ i → (listed.setIfInBounds j true).getD k true = false → (∀ e ∈ ok.after, Region.binds md e = true → e.on ≠ i) → oi.apart ops ok = true := by
        intro k ok hk hki hun hno
        refine hfree k ok hk hki ?_ hno
        by_cases hjk : j = k
        . subst hjk; exact hjun
        . rw [getD_set_ne true hjk] at hun; exact hun
      refine wpOp_mono (fun a' w' h3 => ⟨h3.2.1, ?_⟩) h2
      refine wpLast_first hi hsel hQ hx f (listed.setIfInBounds j true) a' w' (closed_set hcl hj) hfree' hir h3.1 (h3.2.1 hjx) ?_
      rw [Array.setIfInBounds_comm _ _ hji]
      exact h3.2.2
theorem wpLast_take {x i fu : Nat} {oi : Oper} {v : Value} {f : Nat} {listed : Array Bool} {a : Act} {w : World} (hi : ops[i]? = some oi)
    (hs : Region.noSelect ops = true) (hf : Region.free md ops listed i = true) (hr : (Region.ready md ops listed).contains i = true) (hcl : Closed md ops listed) (hx : ops.size ≤ x ∨ waitsB md ops i fu x = true)
    (hQ : ∀ c a w, Q (.panic c) (a.put oi.dst v) w → Q (.panic c) a w) (hy : YieldsIf P ops S oi v a) (hS : S w)
    (h : wpLast P md ops Q S x f (listed.setIfInBounds i true) (a.put oi.dst v) w) : wpLast P md ops Q S x (f + 1) listed a w :=
  wpLast_first hi (Region.noSelect_spec hs) hQ hx f listed a w hcl (Region.free_spec hi hf) (by simpa using hr) hy hS h
end
end Go.Vc
end
section
namespace Go.Vc
open Go.RowKit
def St.setK (st : St) (d : Option Nat) (s : SV) (k : St → Prop) : Prop :=
  match d with
  | none => k st
  | some i => if i < st.n then k (st.set (some i) s) else False
def mkGd (p : Bool) : SV → SV
  | .gd q s => .gd (p && q) s
  | s => .gd p s
theorem mkGd_rel {C : Cx} {p : Bool} {s : SV} {v : Value} (h : (SV.gd p s).rel C v) : (mkGd p s).rel C v := by
  unfold mkGd
  split
  . rename_i q s'
    obtain ⟨h1, h2⟩ := h
    cases p with
    | true => obtain ⟨h3, h4⟩ := h1 rfl; exact ⟨fun hq => h3 (by simpa using hq), fun hq => h4 (by simpa using hq)⟩
    | false => exact ⟨fun hq => (by cases hq), fun _ => h2 rfl⟩
  . exact h
def St.skipped (st : St) (g : Nat) : St := { st with sl := (g, .cst undef) :: st.sl }
def vcOps (E : Env) (ops : Array Oper) : List Oper → St → (St → Prop) → (SV → St → Prop) → Prop
  | [], st, kn, _ => kn st
  | o :: rest, st, kn, kp =>
    match o.guard with
    | none => match st.defr E o with
      | some st1 => st1.setK o.dst .junk fun st'' => vcOps E ops rest st'' kn kp
      | none => vcOp E st o (fun s st' => st'.setK o.dst s fun st'' => vcOps E ops rest st'' kn kp) kp
    | some (j, want) => match (ops[j]?).bind (·.dst) with
      | none => False
      | some g => match st.kn.lookup g with
        | some b => if b = want then vcOp E st o (fun s st' => st'.setK o.dst s fun st'' => vcOps E ops rest st'' kn kp) kp
                    else st.setK o.dst (.cst undef) fun st'' => vcOps E ops rest st'' kn kp
        | none => match st.sl.lookup g with
          | some (.cst (.bool b)) => if b = want then vcOp E st o (fun s st' => st'.setK o.dst s fun st'' => vcOps E ops rest st'' kn kp) kp
                    else st.setK o.dst (.cst undef) fun st'' => vcOps E ops rest st'' kn kp
          | some (.cst (.tuple _)) => st.setK o.dst (.cst undef) fun st'' => vcOps E ops rest st'' kn kp
          | some (.dat .bool b) => match st.op1 E.toTy o with
            | some (obs, s) => (b = want → conj obs True) ∧ st.setK o.dst (mkGd (b == want) s) fun st'' => vcOps E ops rest st'' kn kp
            | none => (b = want → vcOp E (st.know g want) o (fun s st' => st'.setK o.dst s fun st'' => vcOps E ops rest st'' kn kp) kp) ∧
                (b = !want → (st.know g (!want)).setK o.dst (.cst undef) fun st'' => vcOps E ops rest st'' kn kp)
          | some (.gd p (.dat .bool b)) => match st.op1 E.toTy o with
            | some (obs, s) => (p = true → b = want → conj obs True) ∧ st.setK o.dst (mkGd (p && (b == want)) s) fun st'' => vcOps E ops rest st'' kn kp
            | none => (p = true → b = want → vcOp E (st.know g want) o (fun s st' => st'.setK o.dst s fun st'' => vcOps E ops rest st'' kn kp) kp) ∧
                (p = true → b = !want → (st.know g (!want)).setK o.dst (.cst undef) fun st'' => vcOps E ops rest st'' kn kp) ∧
                (p = false → (st.skipped g).setK o.dst (.cst undef) fun st'' => vcOps E ops rest st'' kn kp)
          | _ => False
def vcStill (E : Env) : List Oper → St → (St → Prop) → Prop
  | [], st, k => k st
  | o :: rest, st, k => match o.guard, st.op1 E.toTy o with
    | none, some (obs, s) => conj obs (st.setK o.dst s fun st' => vcStill E rest st' k)
    | _, _ => False
def vcStillG (E : Env) (ops : Array Oper) : List Oper → St → (St → Prop) → Prop
  | [], st, k => k st
  | o :: rest, st, k =>
    match o.guard with
    | none => match st.op1 E.toTy o with
      | some (obs, s) => conj obs (st.setK o.dst s fun st' => vcStillG E ops rest st' k)
      | none => False
    | some (j, want) => match (ops[j]?).bind (·.dst) with
      | none => False
      | some g => match st.sl.lookup g with
        | some (.cst (.bool b)) => if b = want then
            match st.op1 E.toTy o with
            | some (obs, s) => conj obs (st.setK o.dst s fun st' => vcStillG E ops rest st' k)
            | none => False
          else st.setK o.dst (.cst undef) fun st' => vcStillG E ops rest st' k
        | some (.cst (.tuple _)) => st.setK o.dst (.cst undef) fun st' => vcStillG E ops rest st' k
        | some (.dat .bool b) => match st.op1 E.toTy o with
          | some (obs, s) => (b = want → conj obs True) ∧ st.setK o.dst (mkGd (b == want) s) fun st' => vcStillG E ops rest st' k
          | none => False
        | some (.gd p (.dat .bool b)) => match st.op1 E.toTy o with
          | some (obs, s) => (p = true → b = want → conj obs True) ∧ st.setK o.dst (mkGd (p && (b == want)) s) fun st' => vcStillG E ops rest st' k
          | none => False
        | _ => False
def stillKind : Op → Bool
  | .pick .. | .move _ | .assign _ | .binOp .. | .unOp .. | .convert .. | .load .. | .indexAddr .. | .index .. | .slice .. | .field .. | .fieldAddr .. | .nilCheck _ | .extract .. | .makeFunc .. | .makeInterface .. | .lookup .. | .sliceToArrayPointer .. | .entry _ => true
  | .call c => match c.callee with
    | .builtin .len | .builtin .min | .builtin .max => true
    | _ => false
  | _ => false
def firstLoud : List Oper → Nat
  | [] => 0
  | o :: l => if stillKind o.op then firstLoud l + 1 else 0
def isDefer : Op → Bool
  | .defer _ => true
  | _ => false
inductive OT where
  | nil
  | bad
  | done
  | mv (i : Nat) (t : OT)
  | pu (i : Nat) (t : OT)
  | ld (i : Nat) (t : OT)
  | one (i : Nat) (t : OT)
  | fin (i : Nat)
  | both (s t : OT)
def plainMove (o : Oper) : Option Operand :=
  match o.op with
  | .move x => some x
  | .assign x => some x
  | _ => none
def St.guarded (st : St) (ops : Array Oper) (o : Oper) (s : SV) : Option SV :=
  match o.guard with
  | none => some s
  | some (j, want) => match (ops[j]?).bind (·.dst) with
    | none => none
    | some g => match st.sl.lookup g with
      | some (.cst (.bool b)) => some (if b = want then s else .cst undef)
      | some (.cst (.tuple _)) => some (.cst undef)
      | some (.dat .bool b) => some (mkGd (b == want) s)
      | some (.gd p (.dat .bool b)) => some (mkGd (p && (b == want)) s)
      | _ => none
def orders (pu : Oper → Bool) (ops : Array Oper) : Nat → Array Bool → OT
  | 0, listed => if (Region.ready .any ops listed).isEmpty then .done else .bad
  | f + 1, listed =>
    if (Region.ready .any ops listed).isEmpty then .done else
    match (Region.ready .any ops listed).find? fun i => ((ops[i]?).bind plainMove).isSome && Region.free .any ops listed i with
    | some i => .mv i (orders pu ops f (listed.setIfInBounds i true))
    | none => match (Region.ready .any ops listed).find? fun i => ((ops[i]?).elim false pu) && Region.free .any ops listed i with
      | some i => .pu i (orders pu ops f (listed.setIfInBounds i true))
      | none => (Region.ready .any ops listed).foldr (fun i t => .both (.one i (orders pu ops f (listed.setIfInBounds i true))) t) .nil
def EAGER : Nat := 1000000
def puOf (E : Env) (o : Oper) : Bool := pureOp E.toTy o || (E.own.contains EAGER && pureInt E.toTy o)
def dstL (ops : Array Oper) : List Nat := ops.toList.filterMap (·.dst)
def St.forget (st : St) (ds : List Nat) : St := { st with sl := st.sl.filter (fun p => !ds.contains p.1), kn := st.kn.filter (fun p => !ds.contains p.1) }
def vcAny (E : Env) (ops : Array Oper) (kp : SV → St → Prop) : OT → St → (St → Prop) → Prop
  | .nil, _, _ => True
  | .bad, _, _ => False
  | .done, st, kn => kn st
  | .mv i t, st, kn => match ops[i]? with
    | some o => match plainMove o with
      | some x => match st.guarded ops o (st.ev x) with
        | some s => st.setK o.dst s fun st' => vcAny E ops kp t st' kn
        | none => False
      | none => False
    | none => False
  | .pu i t, st, kn => match ops[i]? with
    | some o => if pureOp E.toTy o || (E.own.contains EAGER && pureInt E.toTy o && intArgs st o) then vcStillG E ops [o] st (fun st' => vcAny E ops kp t st' kn) else False
    | none => False
  | .one i t, st, kn => match ops[i]? with
    | some o => vcOps E ops [o] st (fun st' => vcAny E ops kp t st' kn) (fun s st' => kp s (st'.forget (dstL ops)))
    | none => False
  | .both s t, st, kn => vcAny E ops kp s st kn ∧ vcAny E ops kp t st kn
  | .ld _ _, _, _ => False
  | .fin _, _, _ => False
def stripGd : SV → SV
  | .gd _ s => s
  | s => s
def St.heldOb (st : St) (ops : Array Oper) (o : Oper) (x : Operand) : Prop :=
  match st.ev x with
  | .gd p _ => match o.guard with
    | none => p = true
    | some (j, want) => match (ops[j]?).bind (·.dst) with
      | some g => match st.sl.lookup g with
        | some (.dat .bool b) => b = want → p = true
        | some (.gd q (.dat .bool b)) => q = true → b = want → p = true
        | _ => p = true
      | none => p = true
  | _ => True
def LASTM : Nat := 4000000
def lastX (own : List Nat) (ops : Array Oper) : Nat :=
  if own.contains LASTM && (match ops[ops.size - 1]? with
    | some o => match o.op with
      | .store _ _ _ => true
      | _ => false
    | none => false) then ops.size - 1 else ops.size
def lateB (ops : Array Oper) (x i : Nat) : Bool := Nat.ble ops.size x || waitsB .any ops i ops.size x
def ordersH (pu ld : Oper → Bool) (ops : Array Oper) (x : Nat) : Nat → Array Bool → OT
  | 0, listed => if (Region.ready .any ops listed).isEmpty then .done else .bad
  | f + 1, listed =>
    if (Region.ready .any ops listed).isEmpty then .done else
    match (Region.ready .any ops listed).find? fun i => ((ops[i]?).bind plainMove).isSome && Region.free .any ops listed i && lateB ops x i with
    | some i => .mv i (ordersH pu ld ops x f (listed.setIfInBounds i true))
    | none => match (Region.ready .any ops listed).find? fun i => ((ops[i]?).elim false pu) && Region.free .any ops listed i && lateB ops x i with
      | some i => .pu i (ordersH pu ld ops x f (listed.setIfInBounds i true))
      | none => match (Region.ready .any ops listed).find? fun i => ((ops[i]?).elim false ld) && Region.free .any ops listed i && lateB ops x i with
        | some i => .ld i (ordersH pu ld ops x f (listed.setIfInBounds i true))
        | none => (Region.ready .any ops listed).foldr (fun i t => .both (if Nat.beq i x then (if (Region.ready .any ops (listed.setIfInBounds i true)).isEmpty then .fin i else .bad) else .one i (ordersH pu ld ops x f (listed.setIfInBounds i true))) t) .nil
def vcAnyH (E : Env) (ops : Array Oper) (kp : SV → St → Prop) (n ty0 len : Nat) : OT → St → (St → Prop) → Prop
  | .nil, _, _ => True
  | .bad, _, _ => False
  | .done, st, kn => st.unhold n ty0 len kn
  | .mv i t, st, kn => match ops[i]? with
    | some o => match plainMove o with
      | some x => match st.guarded ops o (st.ev x) with
        | some s => st.setK o.dst s fun st' => vcAnyH E ops kp n ty0 len t st' kn
        | none => False
      | none => False
    | none => False
  | .pu i t, st, kn => match ops[i]? with
    | some o => if pureOp E.toTy o || (E.own.contains EAGER && pureInt E.toTy o && intArgs st o) then vcStillG E ops [o] st (fun st' => vcAnyH E ops kp n ty0 len t st' kn) else False
    | none => False
  | .ld i t, st, kn => match ops[i]? with
    | some o => match o.op with
      | .load ty x => match st.heldLoad E.toTy n len ty (stripGd (st.ev x)) with
        | some s => match st.guarded ops o s with
          | some s' => st.heldOb ops o x ∧ st.setK o.dst s' fun st' => vcAnyH E ops kp n ty0 len t st' kn
          | none => False
        | none => False
      | _ => False
    | none => False
  | .one i t, st, kn => match ops[i]? with
    | some o => vcOps E ops [o] st (fun st' => vcAnyH E ops kp n ty0 len t st' kn) (fun s st' => st'.unhold n ty0 len fun st2 => kp s (st2.forget (dstL ops)))
    | none => False
  | .fin i, st, kn => match ops[i]? with
    | some o => st.unhold n ty0 len fun st' => vcOps E ops [o] st' kn (fun s st2 => kp s (st2.forget (dstL ops)))
    | none => False
  | .both s t, st, kn => vcAnyH E ops kp n ty0 len s st kn ∧ vcAnyH E ops kp n ty0 len t st kn
def slotH (own : List Nat) : Nat := match heldSlot own with
  | some x => x
  | none => 0
def vcDraw (E : Env) (ops : Array Oper) (st : St) (kn : St → Prop) (kp : SV → St → Prop) : Prop :=
  if ops.toList.any (fun o => isDefer o.op) then False else
  let n := min (firstLoud ops.toList) (ops.size - 1)
  if Region.lexTailB .any ops n then vcStillG E ops (ops.toList.take n) st fun st' => vcOps { E with yld := none, rnd := true } ops (ops.toList.drop n) st' kn kp
  else if Region.lexB .any ops && ops.toList.all (fun o => stillKind o.op) then vcStillG E ops ops.toList st kn
  else if Region.noSelect ops then match heldOf E.own st with
    | some (n, t, cs) => vcAnyH { E with yld := none, rnd := true } ops kp n t cs.length (ordersH (puOf E) (heldLd ops (slotH E.own)) ops (lastX E.own ops) ops.size (Array.replicate ops.size false)) (st.hold n cs) kn
    | none => vcAny { E with yld := none, rnd := true } ops kp (orders (puOf E) ops ops.size (Array.replicate ops.size false)) st kn
  else False
def trimSl (keep : List Nat) : List Nat → Slots → Slots
  | _, [] => []
  | seen, (i, s) :: r => if seen.contains i || !keep.contains i then trimSl keep seen r else (i, s) :: trimSl keep (i :: seen) r
def St.trim (st : St) (keep : List Nat) : St := { st with sl := trimSl keep [] st.sl, kn := st.kn.filter fun p => keep.contains p.1 }
section
variable {E : Env} {gl : Gl} {B : Base} {ρ : Nat → Value} {st : St} {a : Act} {fs : List Act} {w : World} {kv kp : SV → St → Prop}
theorem trim_lookup (keep : List Nat) : ∀ (sl : Slots) (seen : List Nat) (i : Nat) (s : SV), (trimSl keep seen sl).lookup i = some s → i ∉ seen ∧ sl.lookup i = some s
  | [], _, _, _, h => by cases h
  | (j, t) :: r, seen, i, s, h => by
    simp only [trimSl] at h
    split at h
    . rename_i hc
      obtain ⟨h1, h2⟩ := trim_lookup keep r seen i s h
      refine ⟨h1, ?_⟩
      rw [lookup_cons]
      split
      . rename_i e
        subst e
        simp only [Bool.or_eq_true, Bool.not_eq_true', List.contains_eq_mem, decide_eq_true_eq] at hc
        rcases hc with hc | hc
        . exact absurd hc h1
        . -- not kept: nothing of this name is left
          exfalso
          have : ∀ (r : Slots) (seen : List Nat), (trimSl keep seen r).lookup i = none := by
            intro r
            induction r with
            | nil => intro _; rfl
            | cons p r ih =>
              intro seen
              obtain ⟨q, u⟩ := p
              simp only [trimSl]
              split
              . exact ih _
              . rename_i hq
                rw [lookup_cons, if_neg, ih]
                rintro rfl
                simp only [Bool.or_eq_true, Bool.not_eq_true', not_or, List.contains_eq_mem, Bool.not_eq_false] at hq
                simp_all
          rw [this] at h
          cases h
      . exact h2
    . rw [lookup_cons] at h
      split at h
      . rename_i hc e
        cases h
        subst e
        refine ⟨?_, by rw [lookup_cons, if_pos rfl]⟩
        intro hm
        simp only [Bool.or_eq_true, not_or, List.contains_eq_mem] at hc
        simp_all
      . rename_i hc e
        obtain ⟨h1, h2⟩ := trim_lookup keep r (j :: seen) i s h
        exact ⟨fun hm => h1 (List.mem_cons_of_mem _ hm), by rw [lookup_cons, if_neg e]; exact h2⟩
theorem StRel.skipped (h : StRel B ρ st a fs w) {g : Nat} (hg : g < st.n) (hv : a.tmps.getD g undef = undef) : StRel B ρ (st.skipped g) a fs w :=
  ⟨h.h, ⟨h.s.1, fun i s hs => by
    simp only [St.skipped] at hs
    rw [lookup_cons] at hs
    split at hs
    . rename_i e; cases hs; subst e; exact ⟨hg, hv⟩
    . exact h.s.2 i s hs⟩, h.kn, h.k, h.d, h.g⟩
theorem StRel.trim (h : StRel B ρ st a fs w) (keep : List Nat) : StRel B ρ (st.trim keep) a fs w :=
  ⟨h.h, ⟨h.s.1, fun i s hs => h.s.2 i s (trim_lookup keep st.sl [] i s hs).2⟩, fun t b hb => h.kn t b (List.mem_filter.1 hb).1, h.k, h.d, h.g⟩
theorem setK_sound {d : Option Nat} {s : SV} {k : St → Prop} {v : Value} (hk : st.setK d s k) (h : StRel B ρ st a fs w) (hv : s.rel (cx B ρ st.hp w) v) : ∃ st', k st' ∧ StRel B ρ st' (a.put d v) fs w := by
  unfold St.setK at hk
  cases d with
  | none => exact ⟨st, hk, h⟩
  | some i =>
    simp only at hk
    split at hk
    . rename_i hi
      exact ⟨_, hk, h.put (fun j hj => by cases hj; exact hi) hv⟩
    . exact hk.elim
theorem put_tmps_size (a : Act) (d : Option Nat) (v : Value) : (a.put d v).tmps.size = a.tmps.size := by
  cases d <;> simp [Act.put]
theorem put_defers (a : Act) (d : Option Nat) (v : Value) : (a.put d v).defers = a.defers := by
  cases d <;> rfl
def gList {P : Program} {rnd dfr : Prop} (L : Lg P rnd dfr) (ops : Array Oper) (Q : Exit → Act → World → Prop) : List Oper → Act → World → Prop
  | [], a, w => Q .normal a w
  | o :: rest, a, w => if Region.wanted o (yielded ops a.tmps) then L.W o a w (gList L ops Q rest) Q else gList L ops Q rest (a.put o.dst undef) w
theorem gList_plain {P : Program} {ops : Array Oper} {Q : Exit → Act → World → Prop} : ∀ {l : List Oper} {a : Act} {w : World}, gList (Lg.plain P) ops Q l a w → wpList P ops Q l a w
  | [], _, _, h => h
  | o :: rest, a, w, h => by
    unfold gList at h
    unfold wpList
    split
    . rename_i hw
      rw [if_pos hw] at h
      have e : gList (Lg.plain P) ops Q rest = fun a w => gList (Lg.plain P) ops Q rest a w := rfl
      refine .inl (Oper.wp_mono (fun a w hh => gList_plain hh) h)
    . rename_i hw
      rw [if_neg hw] at h
      exact gList_plain h
theorem uponIn_mono {P : Program} {r : Option Nat} {o : Oper} {a : Act} {next next' : Act → World → Prop} {Q : Exit → Act → World → Prop} {res : Result Next} (hn : ∀ a w, next a w → next' a w) (h : o.uponIn (fen r) 0 P a next Q res) : o.uponIn (fen r) 0 P a next' Q res := by
  unfold Oper.uponIn at h
  split at h
  . exact hn _ _ h
  . exact hn _ _ h
  . exact hn _ _ h
  . refine ⟨h.1, CallsIn.mono h.2 fun e w' hw => ?_⟩
    cases e <;> first | exact hn _ _ hw | exact hw
  . exact ⟨h.1, RowsIn.mono h.2 fun v w' hw => hn _ _ hw⟩
  . refine ⟨h.1, RoundIn.mono h.2 fun e w' hw => ?_⟩
    cases e <;> first | exact hn _ _ hw | exact hw
  . exact h
  . exact h.elim
theorem gList_inn {P : Program} {r : Option Nat} {ops : Array Oper} {Q : Exit → Act → World → Prop} : ∀ {l : List Oper} {a : Act} {w : World}, gList (Lg.inn P r) ops Q l a w → wpListIn (fen r) 0 P ops Q l a w
  | [], _, _, h => h
  | o :: rest, a, w, h => by
    unfold gList at h
    unfold wpListIn
    split
    . rename_i hw
      rw [if_pos hw] at h
      exact ⟨h.1, uponIn_mono (fun a w hh => gList_inn hh) h.2⟩
    . rename_i hw
      rw [if_neg hw] at h
      exact ⟨fun _ _ => trivial, gList_inn h⟩
variable {rnd dfr : Prop} {L : Lg E.P rnd dfr}
theorem defr_sound {o : Oper} {st1 : St} (hd : E.rnd = false → dfr) (hdf : st.defr E o = some st1) (h : StRel B ρ st a fs w) {next : Act → World → Prop} {Q : Exit → Act → World → Prop}
    (hv : ∀ a', StRel B ρ st1 a' fs w → next (a'.put o.dst undef) w) : L.W o a w next Q := by
  unfold St.defr at hdf
  split at hdf
  . rename_i c e
    split at hdf
    . cases hdf
    . rename_i hr
      split at hdf
      . rename_i x hc ha
        split at hdf
        . rename_i f cap hx
          cases hdf
          have hxr := ev_rel h x
          rw [hx] at hxr
          obtain ⟨vs, hxe, hcr⟩ := hxr
          have ha : c.args = #[] := by apply Array.ext'; simpa using ha
          refine L.defer (hd (by simpa using hr)) (d := { target := .fn (.func f) vs.toArray, args := #[] }) (w' := w) ?_ (hv _ ⟨h.h, h.s, h.kn, h.k, ⟨vs, _, rfl, hcr, h.d⟩, h.g⟩)
          unfold execOp
          rw [e]
          simp [resolve, hc, ha, hxe, Deferred.ofValue]
        . cases hdf
      . cases hdf
  . cases hdf
theorem vcOps_sound (hE : E.Ok gl) (hB : B.gl = gl) (hy : ∀ hd, E.yld = some hd → rnd ∧ YieldOk E.P B fs hd) (hd : E.rnd = false → dfr) {ops : Array Oper} {Q : Exit → Act → World → Prop} {kn : St → Prop} : ∀ (l : List Oper) {ρ : Nat → Value} {st : St} {a : Act} {w : World}, vcOps E ops l st kn kp → StRel B ρ st a fs w →
    (∀ st' ρ' a' w', kn st' → StRel B ρ' st' a' fs w' → Q .normal a' w') →
    (∀ s st' ρ' v a' w', kp s st' → StRel B ρ' st' a' fs w' → s.rel (cx B ρ' st'.hp w') v → Q (.panic [{ v := v, recovered := false }]) a' w') → gList L ops Q l a w
  | [], ρ, st, a, w, hk, h, hn, _ => hn st ρ a w hk h
  | o :: rest, ρ, st, a, w, hk, h, hn, hp => by
    have run : ∀ {st1 : St}, vcOp E st1 o (fun s st' => st'.setK o.dst s fun st'' => vcOps E ops rest st'' kn kp) kp → StRel B ρ st1 a fs w → L.W o a w (gList L ops Q rest) Q := by
      intro st1 hk1 h1
      refine vcOp_sound hE hB hy h1 hk1 (fun s st' ρ' v w' hs hr hv => ?_) (fun s st' ρ' v w' hs hr hv => hp s st' ρ' v a w' hs hr hv)
      obtain ⟨st2, h2, h3⟩ := setK_sound hs hr hv
      exact vcOps_sound hE hB hy hd rest h2 h3 hn hp
    have skip : ∀ {st1 : St} {s : SV}, (st1.setK o.dst s fun st'' => vcOps E ops rest st'' kn kp) → StRel B ρ st1 a fs w → s.rel (cx B ρ st1.hp w) undef → gList L ops Q rest (a.put o.dst undef) w := by
      intro st1 s hk1 h1 hs
      obtain ⟨st2, h2, h3⟩ := setK_sound hk1 h1 hs
      exact vcOps_sound hE hB hy hd rest h2 h3 hn hp
    simp only [vcOps] at hk
    unfold gList
    split at hk
    . rename_i hg
      rw [if_pos (by simp [Region.wanted, hg])]
      split at hk
      . rename_i st1 hdf
        refine defr_sound hd hdf h (fun a' h1 => ?_)
        obtain ⟨st2, h2, h3⟩ := setK_sound hk h1 (v := undef) (show SV.rel _ .junk undef from trivial)
        exact vcOps_sound hE hB hy hd rest h2 h3 hn hp
      . exact run hk h
    . rename_i j want hg
      split at hk
      . exact hk.elim
      . rename_i g hgd
        have wanted : ∀ b : Bool, g < st.n → a.tmps.getD g undef = .bool b → Region.wanted o (yielded ops a.tmps) = (b == want) := by
          intro b hlt hb
          have hsz : g < a.tmps.size := by rw [h.s.1]; exact hlt
          have : a.tmps[g]? = some (.bool b) := by
            rw [Array.getD_eq_getD_getElem?, Array.getElem?_eq_getElem hsz] at hb
            rw [Array.getElem?_eq_getElem hsz]
            simpa using hb
          simp only [Region.wanted, hg, yielded, hgd, Option.bind_some, this]
          cases b <;> cases want <;> rfl
        split at hk
        . rename_i b hkn
          obtain ⟨h1, h2⟩ := h.kn g b (lookup_mem hkn)
          rw [wanted b h1 h2]
          split at hk
          . rename_i e
            subst e
            rw [if_pos (by simp)]
            exact run hk h
          . rename_i e
            rw [if_neg (by simpa using e)]
            exact skip hk h rfl
        . split at hk
          . rename_i b hlk
            obtain ⟨h1, h2⟩ := h.s.2 g _ hlk
            have h2 : a.tmps.getD g undef = .bool b := h2
            rw [wanted b h1 h2]
            split at hk
            . rename_i e
              subst e
              rw [if_pos (by simp)]
              exact run hk h
            . rename_i e
              rw [if_neg (by simpa using e)]
              exact skip hk h rfl
          . rename_i vs hlk
            obtain ⟨h1, h2⟩ := h.s.2 g _ hlk
            have h2 : a.tmps.getD g undef = .tuple vs := h2
            have hsz : g < a.tmps.size := by rw [h.s.1]; exact h1
            have e : a.tmps[g]? = some (.tuple vs) := by
              rw [Array.getD_eq_getD_getElem?, Array.getElem?_eq_getElem hsz] at h2
              rw [Array.getElem?_eq_getElem hsz]
              simpa using h2
            rw [if_neg (by simp only [Region.wanted, hg, yielded, hgd, Option.bind_some, e]; simp)]
            exact skip hk h rfl
          . rename_i b hlk
            obtain ⟨h1, h2⟩ := h.s.2 g _ hlk
            have h2 := VRep_bool.1 h2
            rw [wanted b h1 h2]
            split at hk
            . rename_i obs s hop
              by_cases e : b = want
              . subst e
                rw [if_pos (by simp)]
                obtain ⟨h3, _⟩ := conj_all (hk.1 rfl)
                obtain ⟨v, h4, h5⟩ := op1_sound hE.ty h hop h3
                refine L.val (op1_nd hop) h4 ?_
                obtain ⟨st2, h6, h7⟩ := setK_sound hk.2 h (v := v) (mkGd_rel ⟨fun _ => h5, fun hc => absurd hc (by simp)⟩)
                exact vcOps_sound hE hB hy hd rest h6 h7 hn hp
              . rw [if_neg (by simpa using e)]
                exact skip hk.2 h (mkGd_rel ⟨fun hc => absurd (by simpa using hc) e, fun _ => rfl⟩)
            . by_cases e : b = want
              . subst e
                rw [if_pos (by simp)]
                exact run (hk.1 rfl) (h.know h1 h2)
              . rw [if_neg (by simpa using e)]
                have e' : b = !want := by cases b <;> cases want <;> simp_all
                exact skip (hk.2 e') (h.know h1 (by rw [h2, e'])) rfl
          . rename_i p b hlk
            obtain ⟨h1, h2, h3⟩ := h.s.2 g _ hlk
            have wtd : Region.wanted o (yielded ops a.tmps) = (p && (b == want)) := by
              cases p with
              | true => rw [wanted b h1 (VRep_bool.1 (h2 rfl))]; rfl
              | false =>
                have hv := h3 rfl
                have hsz : g < a.tmps.size := by rw [h.s.1]; exact h1
                have : a.tmps[g]? = some undef := by
                  rw [Array.getD_eq_getD_getElem?, Array.getElem?_eq_getElem hsz] at hv
                  rw [Array.getElem?_eq_getElem hsz]
                  simpa using hv
                simp only [Region.wanted, hg, yielded, hgd, Option.bind_some, this]
                rfl
            rw [wtd]
            split at hk
            . rename_i obs s hop
              by_cases e : (p && (b == want)) = true
              . rw [if_pos e]
                have e2 := e
                simp only [Bool.and_eq_true, beq_iff_eq] at e2
                obtain ⟨h4, _⟩ := conj_all (hk.1 e2.1 e2.2)
                obtain ⟨v, h5, h6⟩ := op1_sound hE.ty h hop h4
                refine L.val (op1_nd hop) h5 ?_
                obtain ⟨st2, h7, h8⟩ := setK_sound hk.2 h (v := v) (mkGd_rel ⟨fun _ => h6, fun hc => by rw [e] at hc; cases hc⟩)
                exact vcOps_sound hE hB hy hd rest h7 h8 hn hp
              . rw [if_neg e]
                exact skip hk.2 h (mkGd_rel ⟨fun hc => absurd hc e, fun _ => rfl⟩)
            . by_cases e : (p && (b == want)) = true
              . rw [if_pos e]
                have e2 := e
                simp only [Bool.and_eq_true, beq_iff_eq] at e2
                exact run (hk.1 e2.1 e2.2) (h.know h1 (by rw [VRep_bool.1 (h2 e2.1), e2.2]))
              . rw [if_neg e]
                cases p with
                | true =>
                  have e' : b = !want := by cases b <;> cases want <;> simp_all
                  exact skip (hk.2.1 rfl e') (h.know h1 (by rw [VRep_bool.1 (h2 rfl), e'])) rfl
                | false => exact skip (hk.2.2 rfl) (h.skipped h1 (h3 rfl)) rfl
          . exact hk.elim
theorem vcStillG_sound (hE : E.Ok gl) {ops : Array Oper} {K : Act → Prop} {k : St → Prop} : ∀ (l : List Oper) {ρ : Nat → Value} {st : St} {a : Act}, vcStillG E ops l st k → StRel B ρ st a fs w →
    (∀ st' ρ' a', k st' → StRel B ρ' st' a' fs w → K a') → wpStill E.P ops w K l a
  | [], ρ, st, a, hk, h, hn => hn st ρ a hk h
  | o :: rest, ρ, st, a, hk, h, hn => by
    have run : ∀ {obs : List Prop} {s : SV}, st.op1 E.toTy o = some (obs, s) → (conj obs (st.setK o.dst s fun st' => vcStillG E ops rest st' k)) → o.still E.P a w (wpStill E.P ops w K rest) := by
      intro obs s hop hk
      obtain ⟨h1, h2⟩ := conj_all hk
      obtain ⟨v, h3, h4⟩ := op1_sound hE.ty h hop h1
      obtain ⟨st2, h5, h6⟩ := setK_sound h2 h h4
      unfold Oper.still
      rw [h3]
      exact ⟨rfl, vcStillG_sound hE rest h5 h6 hn⟩
    have skip : ∀ {s : SV}, (st.setK o.dst s fun st'' => vcStillG E ops rest st'' k) → s.rel (cx B ρ st.hp w) undef → wpStill E.P ops w K rest (a.put o.dst undef) := by
      intro s hk1 hs
      obtain ⟨st2, h2, h3⟩ := setK_sound hk1 h hs
      exact vcStillG_sound hE rest h2 h3 hn
    simp only [vcStillG] at hk
    unfold wpStill
    split at hk
    . rename_i hg
      rw [if_pos (by simp [Region.wanted, hg])]
      split at hk
      . rename_i obs s hop
        exact run hop hk
      . exact hk.elim
    . rename_i j want hg
      split at hk
      . exact hk.elim
      . rename_i g hgd
        have wanted : ∀ b : Bool, g < st.n → a.tmps.getD g undef = .bool b → Region.wanted o (yielded ops a.tmps) = (b == want) := by
          intro b hlt hb
          have hsz : g < a.tmps.size := by rw [h.s.1]; exact hlt
          have : a.tmps[g]? = some (.bool b) := by
            rw [Array.getD_eq_getD_getElem?, Array.getElem?_eq_getElem hsz] at hb
            rw [Array.getElem?_eq_getElem hsz]
            simpa using hb
          simp only [Region.wanted, hg, yielded, hgd, Option.bind_some, this]
          cases b <;> cases want <;> rfl
        split at hk
        . rename_i b hlk
          obtain ⟨h1, h2⟩ := h.s.2 g _ hlk
          have h2 : a.tmps.getD g undef = .bool b := h2
          rw [wanted b h1 h2]
          split at hk
          . rename_i e
            subst e
            rw [if_pos (by simp)]
            split at hk
            . rename_i obs s hop
              exact run hop hk
            . exact hk.elim
          . rename_i e
            rw [if_neg (by simpa using e)]
            exact skip hk rfl
        . rename_i vs hlk
          obtain ⟨h1, h2⟩ := h.s.2 g _ hlk
          have h2 : a.tmps.getD g undef = .tuple vs := h2
          have hsz : g < a.tmps.size := by rw [h.s.1]; exact h1
          have e : a.tmps[g]? = some (.tuple vs) := by
            rw [Array.getD_eq_getD_getElem?, Array.getElem?_eq_getElem hsz] at h2
            rw [Array.getElem?_eq_getElem hsz]
            simpa using h2
          rw [if_neg (by simp only [Region.wanted, hg, yielded, hgd, Option.bind_some, e]; simp)]
          exact skip hk rfl
        . rename_i b hlk
          obtain ⟨h1, h2⟩ := h.s.2 g _ hlk
          have h2 := VRep_bool.1 h2
          rw [wanted b h1 h2]
          split at hk
          . rename_i obs s hop
            by_cases e : b = want
            . subst e
              rw [if_pos (by simp)]
              obtain ⟨h3, _⟩ := conj_all (hk.1 rfl)
              obtain ⟨v, h4, h5⟩ := op1_sound hE.ty h hop h3
              obtain ⟨st2, h6, h7⟩ := setK_sound hk.2 h (v := v) (mkGd_rel ⟨fun _ => h5, fun hc => absurd hc (by simp)⟩)
              unfold Oper.still
              rw [h4]
              exact ⟨rfl, vcStillG_sound hE rest h6 h7 hn⟩
            . rw [if_neg (by simpa using e)]
              exact skip hk.2 (mkGd_rel ⟨fun hc => absurd (by simpa using hc) e, fun _ => rfl⟩)
          . exact hk.elim
        . rename_i p b hlk
          obtain ⟨h1, h2, h3⟩ := h.s.2 g _ hlk
          have wtd : Region.wanted o (yielded ops a.tmps) = (p && (b == want)) := by
            cases p with
            | true => rw [wanted b h1 (VRep_bool.1 (h2 rfl))]; rfl
            | false =>
              have hv := h3 rfl
              have hsz : g < a.tmps.size := by rw [h.s.1]; exact h1
              have : a.tmps[g]? = some undef := by
                rw [Array.getD_eq_getD_getElem?, Array.getElem?_eq_getElem hsz] at hv
                rw [Array.getElem?_eq_getElem hsz]
                simpa using hv
              simp only [Region.wanted, hg, yielded, hgd, Option.bind_some, this]
              rfl
          rw [wtd]
          split at hk
          . rename_i obs s hop
            by_cases e : (p && (b == want)) = true
            . rw [if_pos e]
              have e2 := e
              simp only [Bool.and_eq_true, beq_iff_eq] at e2
              obtain ⟨h4, _⟩ := conj_all (hk.1 e2.1 e2.2)
              obtain ⟨v, h5, h6⟩ := op1_sound hE.ty h hop h4
              obtain ⟨st2, h7, h8⟩ := setK_sound hk.2 h (v := v) (mkGd_rel ⟨fun _ => h6, fun hc => by rw [e] at hc; cases hc⟩)
              unfold Oper.still
              rw [h5]
              exact ⟨rfl, vcStillG_sound hE rest h7 h8 hn⟩
            . rw [if_neg e]
              exact skip hk.2 (mkGd_rel ⟨fun hc => absurd hc e, fun _ => rfl⟩)
          . exact hk.elim
        . exact hk.elim
theorem upon_in {P : Program} {r : Option Nat} {o : Oper} {next next' : Act → World → Prop} {Q : Exit → Act → World → Prop} {res : Result Next} (hq : ¬ LetsOut Q) (hn : ∀ a w, next a w → next' a w) (h : o.upon P a next Q res) : o.uponIn (fen r) 0 P a next' Q res := by
  unfold Oper.upon at h
  split at h
  . exact hn _ _ h
  . exact hn _ _ h
  . exact hn _ _ h
  . refine ⟨fun h => (by cases h), ?_⟩
    have : CallsIn Fence.wide 0 P _ _ _ _ := callsIn_wide.2 h
    have h2 : CallsIn (fen r) 0 P _ _ _ _ := this
    refine CallsIn.mono h2 fun e w' hw => ?_
    cases e with
    | returned v => exact hn _ _ hw
    | panicked ch => exact hw
    | outgrown => exact absurd hw hq
  . refine ⟨fun h => (by cases h), ?_⟩
    intro c cs _
    obtain ⟨v, w', h1, h2⟩ := h c cs
    exact ⟨v, w', hn _ _ h1, stepsIn_wide.2 h2⟩
  . exact h
  . exact h.elim
theorem wpOps_in {P : Program} {r : Option Nat} {ops : Array Oper} {Q : Exit → Act → World → Prop} (hq : ¬ LetsOut Q) (hnd : ∀ (i : Nat) (o : Oper), ops[i]? = some o → ∀ c, o.op ≠ .defer c) : ∀ (l : List Nat) (a : Act) (w : World), wpOps P ops Q l a w → wpOpsIn (fen r) 0 P ops Q l a w
  | [], _, _, h => h
  | i :: rest, a, w, h => by
    unfold wpOps at h
    unfold wpOpsIn
    split at h
    . rename_i ho
      simp only [ho]
      exact wpOps_in hq hnd rest a w h
    . rename_i o ho
      simp only [ho]
      split at h
      . rename_i hw
        rw [if_pos hw]
        rcases h with h | ⟨_, h⟩
        . refine ⟨fun _ _ => trivial, ?_⟩
          rw [semAt_eq (hnd i o ho)]
          exact upon_in hq (fun a w hh => wpOps_in hq hnd rest a w hh) h
        . exact absurd h hq
      . rename_i hw
        rw [if_neg hw]
        exact ⟨fun _ _ => trivial, wpOps_in hq hnd rest _ w h⟩
theorem draw_any {P : Program} {r : Option Nat} {id : Nat} {ops : Array Oper} {Q : Exit → Act → World → Prop} (hm : P.follows .mixedOrders = true) (hq : ¬ LetsOut Q) (hnd : ∀ (i : Nat) (o : Oper), ops[i]? = some o → ∀ c, o.op ≠ .defer c)
    (h : wpAny P .any ops Q ops.size (Array.replicate ops.size false) a { w with drawn := w.drawn + 1 }) : (Code.region id ops true).wpIn (fen r) 0 P Q a w :=
  wpIn_region_draw fun t => by
    simp only [Region.schedule, hm, Bool.true_or, if_true]
    exact wpOps_in hq hnd _ _ _ (wpAny_sound ops.size t _ a _ h)
theorem any_still {P : Program} {ops : Array Oper} {Q : Exit → Act → World → Prop} (hB : Region.lexB .any ops = true)
    (h : wpStill P ops w (fun a' => Q .normal a' w) ops.toList a) : wpAny P .any ops Q ops.size (Array.replicate ops.size false) a w := by
  simp only [Region.lexB, Bool.and_eq_true] at hB
  refine wpAny_of_still (Q := fun a' => Q .normal a' w) (fun _ h => h) _ _ _ ?_
  have := wpAnyS_lex (md := .any) hB.1 ops.toList 0 (Array.replicate ops.size false) a (by simp) (by simpa using hB.2) h
  simpa using this
theorem any_tail {P : Program} {Q : Exit → Act → World → Prop} {l : List Oper} (n : Nat) (hB : Region.lexTailB .any l.toArray n = true)
    (h : wpStill P l.toArray w (fun a' => wpList P l.toArray Q (l.drop n) a' w) (l.take n) a) : wpAny P .any l.toArray Q l.toArray.size (Array.replicate l.toArray.size false) a w := by
  simp only [Region.lexTailB, Bool.and_eq_true, decide_eq_true_eq] at hB
  obtain ⟨⟨⟨⟨hsel, hn⟩, hs⟩, hc⟩, hlex⟩ := hB
  have hn' : n < l.length := by simpa using hn
  have htl : (l.take n).length = n := by simp; omega
  have hdl : (l.drop n).length = l.toArray.size - n := by simp
  have inv0 : HeadInv .any l.toArray n (Array.replicate l.toArray.size false) :=
    ⟨by simp, fun j oj _ hl => (by rw [getD_replicate_false] at hl; cases hl), fun t _ ht => getD_in (by simpa using ht) (getD_replicate_false _ _)⟩
  have H := wpAnyL_lex (md := .any) (g := l.toArray.size - n) hsel hs hc hn (l.take n) 0 _ a (fun j hj => by
    have hj' : j < n := by rw [htl] at hj; exact hj
    simp [hj']) (by simpa using htl) inv0 (by rw [htl]; exact hlex) h
  have := wpAny_of_head (Q' := Q) (g := l.toArray.size - n) (fun listed a' hL => by
    have := wpAny_of_seq (md := .any) (Q' := Q) (l.drop n) n listed a' w (fun j => by simp [List.getElem?_drop]) (by rw [hdl]; exact hL.1) hL.2
    rwa [hdl] at this) _ _ _ H
  rw [htl, show n + (l.toArray.size - n) = l.toArray.size by omega] at this
  exact this
theorem both_mem {ops : Array Oper} {g : Nat → OT} {kn : St → Prop} {i : Nat} : ∀ {l : List Nat}, vcAny E ops kp (l.foldr (fun i t => .both (.one i (g i)) t) .nil) st kn → i ∈ l → vcAny E ops kp (.one i (g i)) st kn
  | [], _, hi => by cases hi
  | j :: l, h, hi => by
    rcases List.mem_cons.1 hi with rfl | hi
    . exact h.1
    . exact both_mem h.2 hi
theorem plainMove_spec {o : Oper} {x : Operand} (h : plainMove o = some x) : ∀ (P : Program) (ρ : Operand → Value) (w : World), (execOp ρ o).run P w = .ok (.value (ρ x)) w := by
  unfold plainMove at h
  split at h
  . rename_i y e; cases h
    exact fun P ρ w => by unfold execOp; rw [e]; rfl
  . rename_i y e; cases h
    exact fun P ρ w => by unfold execOp; rw [e]; rfl
  . cases h
theorem guarded_sound (h : StRel B ρ st a fs w) {ops : Array Oper} {o : Oper} {s s' : SV} {v : Value} (hs : s.rel (cx B ρ st.hp w) v) (hg : st.guarded ops o s = some s') :
    (Region.wanted o (yielded ops a.tmps) = true ∧ s'.rel (cx B ρ st.hp w) v) ∨ (Region.wanted o (yielded ops a.tmps) = false ∧ s'.rel (cx B ρ st.hp w) undef) := by
  unfold St.guarded at hg
  split at hg
  . rename_i e
    cases hg
    exact .inl ⟨by simp [Region.wanted, e], hs⟩
  . rename_i j want e
    split at hg
    . cases hg
    . rename_i g hgd
      have wanted : ∀ b : Bool, g < st.n → a.tmps.getD g undef = .bool b → Region.wanted o (yielded ops a.tmps) = (b == want) := by
        intro b hlt hb
        have hsz : g < a.tmps.size := by rw [h.s.1]; exact hlt
        have : a.tmps[g]? = some (.bool b) := by
          rw [Array.getD_eq_getD_getElem?, Array.getElem?_eq_getElem hsz] at hb
          rw [Array.getElem?_eq_getElem hsz]
          simpa using hb
        simp only [Region.wanted, e, yielded, hgd, Option.bind_some, this]
        cases b <;> cases want <;> rfl
      have notB : ∀ vs, g < st.n → a.tmps.getD g undef = .tuple vs → Region.wanted o (yielded ops a.tmps) = false := by
        intro vs hlt hb
        have hsz : g < a.tmps.size := by rw [h.s.1]; exact hlt
        have : a.tmps[g]? = some (.tuple vs) := by
          rw [Array.getD_eq_getD_getElem?, Array.getElem?_eq_getElem hsz] at hb
          rw [Array.getElem?_eq_getElem hsz]
          simpa using hb
        simp only [Region.wanted, e, yielded, hgd, Option.bind_some, this]
        rfl
      split at hg
      . rename_i b hlk
        obtain ⟨h1, h2⟩ := h.s.2 g _ hlk
        have h2 : a.tmps.getD g undef = .bool b := h2
        cases hg
        rw [wanted b h1 h2]
        by_cases e : b = want
        . rw [if_pos e]; exact .inl ⟨by simpa using e, hs⟩
        . rw [if_neg e]; exact .inr ⟨by simpa using e, rfl⟩
      . rename_i vs hlk
        obtain ⟨h1, h2⟩ := h.s.2 g _ hlk
        cases hg
        exact .inr ⟨notB vs h1 h2, rfl⟩
      . rename_i b hlk
        obtain ⟨h1, h2⟩ := h.s.2 g _ hlk
        cases hg
        rw [wanted b h1 (VRep_bool.1 h2)]
        cases e : (b == want) with
        | true => exact .inl ⟨rfl, mkGd_rel ⟨fun _ => hs, fun hc => by cases hc⟩⟩
        | false => exact .inr ⟨rfl, mkGd_rel ⟨fun hc => (by cases hc), fun _ => rfl⟩⟩
      . rename_i p b hlk
        obtain ⟨h1, h2, h3⟩ := h.s.2 g _ hlk
        have wtd : Region.wanted o (yielded ops a.tmps) = (p && (b == want)) := by
          cases p with
          | true => rw [wanted b h1 (VRep_bool.1 (h2 rfl))]; rfl
          | false => rw [notB #[] h1 (h3 rfl)]; rfl
        cases hg
        rw [wtd]
        cases e : (p && (b == want)) with
        | true => exact .inl ⟨rfl, mkGd_rel ⟨fun _ => hs, fun hc => by cases hc⟩⟩
        | false => exact .inr ⟨rfl, mkGd_rel ⟨fun hc => (by cases hc), fun _ => rfl⟩⟩
      . cases hg
theorem upon_exits {P : Program} {o : Oper} {a : Act} {next : Act → World → Prop} {Q Q' : Exit → Act → World → Prop} {res : Result Next} (hp : ∀ c a w, Q' (.panic c) a w → Q (.panic c) a w) (ho : ¬ LetsOut Q') (h : o.upon P a next Q' res) : o.upon P a next Q res := by
  unfold Oper.upon at h
  split at h
  . exact h
  . exact h
  . exact h
  . refine Calls.mono h fun e w' hw => ?_
    cases e with
    | returned v => exact hw
    | panicked ch => exact hp _ _ _ hw
    | outgrown => exact absurd hw ho
  . exact h
  . exact hp _ _ _ h
  . exact h.elim
theorem wpAny_exits {P : Program} {ops : Array Oper} {Q Q' : Exit → Act → World → Prop} (hp : ∀ c a w, Q' (.panic c) a w → Q (.panic c) a w) (ho : ¬ LetsOut Q') (hn : ∀ a w, Q' .normal a w → Q .normal a w) :
    ∀ (f : Nat) (listed : Array Bool) (a : Act) (w : World), wpAny P .any ops Q' f listed a w → wpAny P .any ops Q f listed a w
  | 0, _, _, _, h => ⟨h.1, hn _ _ h.2⟩
  | f + 1, _, a, w, h => ⟨fun hr => hn _ _ (h.1 hr), fun i hi => by
    have h1 := wpOp_mono (fun a w hh => wpAny_exits hp ho hn f _ a w hh) (h.2 i hi)
    unfold wpOp at h1 ⊢
    split at h1
    . exact h1
    . split at h1
      . rename_i hw
        rw [if_pos hw]
        rcases h1 with h1 | ⟨_, h1⟩
        . exact .inl (upon_exits hp ho h1)
        . exact absurd h1 ho
      . rename_i hw
        rw [if_neg hw]
        exact h1⟩
def Agree (ds : List Nat) (a a2 : Act) : Prop := a2.tmps.size = a.tmps.size ∧ a2.defers = a.defers ∧ ∀ i, i ∉ ds → a2.tmps.getD i undef = a.tmps.getD i undef
theorem lookup_filter {p : Nat → Bool} {i : Nat} {s : SV} : ∀ {sl : Slots}, (sl.filter fun q => p q.1).lookup i = some s → sl.lookup i = some s ∧ p i = true
  | [], h => by cases h
  | (j, u) :: sl, h => by
    rw [lookup_cons]
    by_cases hj : p j = true
    . rw [List.filter_cons_of_pos (by exact hj), lookup_cons] at h
      split at h
      . rename_i e
        cases h
        subst e
        exact ⟨if_pos rfl, hj⟩
      . rename_i e
        rw [if_neg e]
        exact lookup_filter h
    . rw [List.filter_cons_of_neg (by exact hj)] at h
      obtain ⟨h1, h2⟩ := lookup_filter h
      refine ⟨?_, h2⟩
      rw [if_neg (fun e => hj (by rw [← e]; exact h2))]
      exact h1
theorem StRel.forget {ds : List Nat} (h : StRel B ρ st a fs w) {a2 : Act} (hag : Agree ds a a2) : StRel B ρ (st.forget ds) a2 fs w := by
  refine ⟨h.h, ⟨hag.1.trans h.s.1, fun i s hs => ?_⟩, fun t b hb => ?_, h.k, by rw [hag.2.1]; exact h.d, h.g⟩
  . obtain ⟨h1, h2⟩ := lookup_filter (p := fun j => !ds.contains j) hs
    have hi : i ∉ ds := by simpa using h2
    rw [hag.2.2 i hi]
    exact h.s.2 i s h1
  . simp only [St.forget, List.mem_filter] at hb
    have hi : t ∉ ds := by simpa using hb.2
    rw [hag.2.2 t hi]
    exact h.kn t b hb.1
def DrawQ (ds : List Nat) (Q : Exit → Act → World → Prop) : Exit → Act → World → Prop
  | .normal, a, w => Q .normal a w
  | .panic c, a, w => ∀ a2, Agree ds a a2 → Q (.panic c) a2 w
  | _, _, _ => False
theorem drawQ_put {ops : Array Oper} {Q : Exit → Act → World → Prop} {i : Nat} {o : Oper} (ho : ops[i]? = some o) : ∀ c (a : Act) (v : Value) w, DrawQ (dstL ops) Q (.panic c) (a.put o.dst v) w → DrawQ (dstL ops) Q (.panic c) a w := by
  intro c a v w h a2 hag
  refine h a2 ⟨by rw [put_tmps_size]; exact hag.1, by rw [put_defers]; exact hag.2.1, fun j hj => ?_⟩
  rw [hag.2.2 j hj]
  cases hd : o.dst with
  | none => rfl
  | some d =>
    have hm : d ∈ dstL ops := List.mem_filterMap.2 ⟨o, by simpa using Array.mem_of_getElem? ho, hd⟩
    rw [put_other a d j v (fun e => hj (e ▸ hm))]
theorem vcAny_sound (hE : E.Ok gl) (hB : B.gl = gl) (hy : E.yld = none) (hr : E.rnd = true) {ops : Array Oper} (hs : Region.noSelect ops = true) {Q : Exit → Act → World → Prop} (hQ : ∀ (i : Nat) (o : Oper), ops[i]? = some o → ∀ c (a : Act) v w, Q (.panic c) (a.put o.dst v) w → Q (.panic c) a w) (hp : ∀ s st' ρ' v a' w', kp s (st'.forget (dstL ops)) → StRel B ρ' st' a' fs w' → s.rel (cx B ρ' st'.hp w') v → Q (.panic [{ v := v, recovered := false }]) a' w') {kn : St → Prop}
    (hn : ∀ st' ρ' a' w', kn st' → StRel B ρ' st' a' fs w' → Q .normal a' w') : ∀ (f : Nat) (listed : Array Bool) {ρ : Nat → Value} {st : St} {a : Act} {w : World},
    vcAny E ops kp (orders (puOf E) ops f listed) st kn → StRel B ρ st a fs w → wpAny E.P .any ops Q f listed a w
  | 0, listed, ρ, st, a, w, hk, h => by
    simp only [orders] at hk
    split at hk
    . rename_i he
      exact ⟨by simpa using he, hn _ _ _ _ hk h⟩
    . exact hk.elim
  | f + 1, listed, ρ, st, a, w, hk, h => by
    simp only [orders] at hk
    split at hk
    . rename_i he
      exact wpAny_done (by simpa using he) (hn _ _ _ _ hk h) _
    rename_i hne
    split at hk
    . rename_i i hf
      have hf1 := List.find?_some hf
      have hf2 := List.mem_of_find?_eq_some hf
      simp only [Bool.and_eq_true] at hf1
      simp only [vcAny] at hk
      split at hk
      . rename_i o ho
        split at hk
        . rename_i x hx
          have hrun := plainMove_spec hx
          split at hk
          . rename_i s hgu
            rcases guarded_sound h (ev_rel h x) hgu with ⟨hw, hv⟩ | ⟨hw, hv⟩
            . obtain ⟨st2, h2, h3⟩ := setK_sound hk h hv
              exact wpAny_take ho hs hf1.2 (by simpa using hf2) (fun c a w hq => hQ _ _ ho c a _ w hq) (.inl ⟨hw, fun w => hrun _ _ _⟩) (vcAny_sound hE hB hy hr hs hQ hp hn f _ h2 h3)
            . obtain ⟨st2, h2, h3⟩ := setK_sound hk h hv
              exact wpAny_take ho hs hf1.2 (by simpa using hf2) (fun c a w hq => hQ _ _ ho c a _ w hq) (.inr ⟨hw, rfl⟩) (vcAny_sound hE hB hy hr hs hQ hp hn f _ h2 h3)
          . exact hk.elim
        . exact hk.elim
      . exact hk.elim
    split at hk
    . rename_i i hf
      have hf1 := List.find?_some hf
      have hf2 := List.mem_of_find?_eq_some hf
      simp only [Bool.and_eq_true] at hf1
      simp only [vcAny] at hk
      split at hk
      . rename_i o ho
        split at hk
        . rename_i hpu
          have hfr : (∃ v, ∀ w, (execOp a.eval o).run E.P w = .ok (.value v) w) ∨ ∀ w n w', (execOp a.eval o).run E.P w ≠ .ok n w' := by
            rw [Bool.or_eq_true, Bool.and_eq_true, Bool.and_eq_true] at hpu
            rcases hpu with hpu | ⟨⟨_, h1⟩, h2⟩
            . exact pureOp_free hE.ty hpu a.eval
            . exact pureInt_free hE.ty h1 h h2
          have h1 := vcStillG_sound (K := fun a' => ∃ st' ρ', vcAny E ops kp (orders (puOf E) ops f (listed.setIfInBounds i true)) st' kn ∧ StRel B ρ' st' a' fs w) hE [o] hk h (fun st' ρ' a' h1 h2 => ⟨st', ρ', h1, h2⟩)
          unfold wpStill at h1
          split at h1
          . rename_i hw
            unfold Oper.still at h1
            rcases hfr with ⟨v, hn1⟩ | hno
            . rw [hn1 w] at h1
              obtain ⟨_, st', ρ', h2, h3⟩ := h1
              exact wpAny_take ho hs hf1.2 (by simpa using hf2) (fun c a w hq => hQ _ _ ho c a _ w hq) (.inl ⟨hw, hn1⟩) (vcAny_sound hE hB hy hr hs hQ hp hn f _ h2 h3)
            . exact absurd h1 (by
                generalize hres : (execOp a.eval o).run E.P w = res
                intro hc
                cases res with
                | ok n w' => exact hno w n w' hres
                | halt x w' => exact hc)
          . rename_i hw
            obtain ⟨st', ρ', h2, h3⟩ := h1
            exact wpAny_take ho hs hf1.2 (by simpa using hf2) (fun c a w hq => hQ _ _ ho c a _ w hq) (.inr ⟨by simpa using hw, rfl⟩) (vcAny_sound hE hB hy hr hs hQ hp hn f _ h2 h3)
        . exact hk.elim
      . exact hk.elim
    . refine ⟨fun he => absurd he (by simpa using hne), fun i hi => ?_⟩
      have h1 := both_mem hk hi
      simp only [vcAny] at h1
      split at h1
      . rename_i o ho
        have h2 := vcOps_sound (L := Lg.plain E.P) (dfr := False) (Q := fun e a w => match e with | .normal => wpAny E.P .any ops Q f (listed.setIfInBounds i true) a w | .panic c => Q (.panic c) a w | _ => False) hE hB (fun hd hh => by rw [hy] at hh; cases hh) (fun hh => by rw [hr] at hh; cases hh) _ h1 h
          (fun st' ρ' a' w' hk' h' => vcAny_sound hE hB hy hr hs hQ hp hn f _ hk' h') hp
        have h3 := gList_plain h2
        unfold wpOp
        rw [ho]
        simp only
        unfold wpList at h3
        split
        . rename_i hw
          rw [if_pos hw] at h3
          rcases h3 with h3 | ⟨_, a', w', h4⟩
          . left
            refine upon_exits (Q' := fun e a w => match e with | .normal => wpAny E.P .any ops Q f (listed.setIfInBounds i true) a w | .panic c => Q (.panic c) a w | _ => False) (fun _ _ _ hh => hh) (fun ⟨_, _, hh⟩ => hh) ?_
            exact h3
          . exact h4.elim
        . rename_i hw
          rw [if_neg hw] at h3
          exact h3
      . exact h1.elim
theorem bothH_mem {ops : Array Oper} {n ty0 len : Nat} {g : Nat → OT} {kn : St → Prop} {i : Nat} : ∀ {l : List Nat}, vcAnyH E ops kp n ty0 len (l.foldr (fun i t => .both (g i) t) .nil) st kn → i ∈ l → vcAnyH E ops kp n ty0 len (g i) st kn
  | [], _, hi => by cases hi
  | j :: l, h, hi => by
    rcases List.mem_cons.1 hi with rfl | hi
    . exact h.1
    . exact bothH_mem h.2 hi
theorem lateB_spec {ops : Array Oper} {x i : Nat} (h : lateB ops x i = true) : ops.size ≤ x ∨ waitsB .any ops i ops.size x = true := by
  rcases Bool.or_eq_true_iff.1 h with h | h
  . exact .inl (Nat.le_of_ble_eq_true h)
  . exact .inr h
theorem held_lt {n : Nat} {sl : Slots} {df : List DE} {r : List (Slots × List DE)} (h : StRel B ρ st a fs w) (hstk : st.stk = (sl, df) :: r) (h0 : sl.lookup 0 = some (.ptr n 0)) : n < st.hp.length ∧ True := by
  have hk := h.k
  rw [hstk] at hk
  obtain ⟨f', fs', e, hsl, _⟩ := hk
  exact ⟨(hsl.2 0 _ h0).2.1, trivial⟩
theorem wanted_bool {ops : Array Oper} {o : Oper} {j g : Nat} {want b : Bool} (h : StRel B ρ st a fs w) (hg : o.guard = some (j, want)) (hgd : (ops[j]?).bind (·.dst) = some g) (hlt : g < st.n) (hb : a.tmps.getD g undef = .bool b) :
    Region.wanted o (yielded ops a.tmps) = (b == want) := by
  have hsz : g < a.tmps.size := by rw [h.s.1]; exact hlt
  have : a.tmps[g]? = some (.bool b) := by
    rw [Array.getD_eq_getD_getElem?, Array.getElem?_eq_getElem hsz] at hb
    rw [Array.getElem?_eq_getElem hsz]
    simpa using hb
  simp only [Region.wanted, hg, yielded, hgd, Option.bind_some, this]
  cases b <;> cases want <;> rfl
theorem wanted_undef {ops : Array Oper} {o : Oper} {j g : Nat} {want : Bool} (h : StRel B ρ st a fs w) (hg : o.guard = some (j, want)) (hgd : (ops[j]?).bind (·.dst) = some g) (hlt : g < st.n) (hb : a.tmps.getD g undef = undef) :
    Region.wanted o (yielded ops a.tmps) = false := by
  have hsz : g < a.tmps.size := by rw [h.s.1]; exact hlt
  have : a.tmps[g]? = some undef := by
    rw [Array.getD_eq_getD_getElem?, Array.getElem?_eq_getElem hsz] at hb
    rw [Array.getElem?_eq_getElem hsz]
    simpa using hb
  simp only [Region.wanted, hg, yielded, hgd, Option.bind_some, this]
  rfl
theorem heldOb_sound {ops : Array Oper} {o : Oper} {x : Operand} {n off : Nat} (h : StRel B ρ st a fs w) (hk : st.heldOb ops o x) (hw : Region.wanted o (yielded ops a.tmps) = true) (hx : stripGd (st.ev x) = .ptr n off) : (SV.ptr n off).rel (cx B ρ st.hp w) (a.eval x) := by
  have hr := ev_rel h x
  unfold St.heldOb at hk
  split at hk
  . rename_i p s e
    rw [e] at hx hr
    have hx : s = .ptr n off := hx
    subst hx
    suffices hp : p = true from hr.1 hp
    split at hk
    . exact hk
    . rename_i j want hg
      split at hk
      . rename_i g hgd
        split at hk
        . rename_i b hl
          obtain ⟨h1, h2⟩ := h.s.2 g _ hl
          have h2 := VRep_bool.1 h2
          have := wanted_bool h hg hgd h1 h2
          rw [this] at hw
          exact hk (by simpa using hw)
        . rename_i q b hl
          obtain ⟨h1, h2, h3⟩ := h.s.2 g _ hl
          cases q with
          | true =>
            have h2 := VRep_bool.1 (h2 rfl)
            have := wanted_bool h hg hgd h1 h2
            rw [this] at hw
            exact hk rfl (by simpa using hw)
          | false =>
            rw [wanted_undef h hg hgd h1 (h3 rfl)] at hw
            cases hw
        . exact hk
      . exact hk
  . rename_i hne
    have : stripGd (st.ev x) = st.ev x := by
      generalize st.ev x = s at hne
      cases s with
      | gd p s => exact absurd rfl (hne p s)
      | _ => rfl
    rw [this] at hx
    rw [hx] at hr
    exact hr
theorem vcAnyH_sound {w0 : World} {b n t xs : Nat} {cs : List SV} {vs : List Value} (hS : ∀ ρ' st2 a2 fs2 w2, StRel B ρ' st2 a2 fs2 w2 → w2.heap[b]? = w0.heap[b]?) (hb : w0.heap[b]? = some (.cells vs.toArray t (0, 0)))
    (hL : ∀ ρ' st2 a2 w2 sl df r, StRel B ρ' st2 a2 fs w2 → st2.stk = (sl, df) :: r → sl.lookup 0 = some (.ptr n 0) → ρ' n = .pointer (some ⟨b, 0, none⟩) ∧ SV.rels (cx B ρ' st2.hp w2) (auxC sl 1 cs.length) vs) {B0 : Base} {fs0 : List Act} {x : Nat} (hU : ∀ (K : St → Prop) ρ' st2 a2 w2, st2.unhold n t cs.length K → StRel B ρ' st2 a2 fs w2 → ∃ st3, K st3 ∧ StRel B0 ρ' st3 a2 fs0 w2 ∧ (cx B ρ' st2.hp w2).le (cx B0 ρ' st3.hp w2)) (hB0 : B0.gl = gl) (hE : E.Ok gl) (hB : B.gl = gl) (hy : E.yld = none) (hr : E.rnd = true) {ops : Array Oper} (hs : Region.noSelect ops = true) {Q : Exit → Act → World → Prop} (hQ : ∀ (i : Nat) (o : Oper), ops[i]? = some o → ∀ c (a : Act) v w, Q (.panic c) (a.put o.dst v) w → Q (.panic c) a w) (hp : ∀ s st' ρ' v a' w', kp s (st'.forget (dstL ops)) → StRel B0 ρ' st' a' fs0 w' → s.rel (cx B0 ρ' st'.hp w') v → Q (.panic [{ v := v, recovered := false }]) a' w') {kn : St → Prop}
    (hn : ∀ st' ρ' a' w', kn st' → StRel B0 ρ' st' a' fs0 w' → Q .normal a' w') : ∀ (f : Nat) (listed : Array Bool) {ρ : Nat → Value} {st : St} {a : Act} {w : World},
    Closed .any ops listed → vcAnyH E ops kp n t cs.length (ordersH (puOf E) (heldLd ops xs) ops x f listed) st kn → StRel B ρ st a fs w → wpLast E.P .any ops Q (fun w => w.heap[b]? = w0.heap[b]?) x f listed a w
  | 0, listed, ρ, st, a, w, hcl, hk, h => by
    simp only [ordersH] at hk
    split at hk
    . rename_i he
      obtain ⟨st3, h3, h4, _⟩ := hU _ _ _ _ _ hk h
      exact ⟨by simpa using he, hn _ _ _ _ h3 h4⟩
    . exact hk.elim
  | f + 1, listed, ρ, st, a, w, hcl, hk, h => by
    simp only [ordersH] at hk
    split at hk
    . rename_i he
      obtain ⟨st3, h3, h4, _⟩ := hU _ _ _ _ _ hk h
      exact wpLast_done (by simpa using he) (hn _ _ _ _ h3 h4) _
    rename_i hne
    split at hk
    . rename_i i hf
      have hf1 := List.find?_some hf
      have hf2 := List.mem_of_find?_eq_some hf
      simp only [Bool.and_eq_true] at hf1
      simp only [vcAnyH] at hk
      split at hk
      . rename_i o ho
        split at hk
        . rename_i x hx
          have hrun := plainMove_spec hx
          split at hk
          . rename_i s hgu
            rcases guarded_sound h (ev_rel h x) hgu with ⟨hw, hv⟩ | ⟨hw, hv⟩
            . obtain ⟨st2, h2, h3⟩ := setK_sound hk h hv
              exact wpLast_take ho hs hf1.1.2 (by simpa using hf2) hcl (lateB_spec hf1.2) (fun c a w hq => hQ _ _ ho c a _ w hq) (.inl ⟨hw, fun w _ => hrun _ _ _⟩) (hS _ _ _ _ _ h) (vcAnyH_sound hS hb hL hU hB0 hE hB hy hr hs hQ hp hn f _ (closed_set hcl hf2) h2 h3)
            . obtain ⟨st2, h2, h3⟩ := setK_sound hk h hv
              exact wpLast_take ho hs hf1.1.2 (by simpa using hf2) hcl (lateB_spec hf1.2) (fun c a w hq => hQ _ _ ho c a _ w hq) (.inr ⟨hw, rfl⟩) (hS _ _ _ _ _ h) (vcAnyH_sound hS hb hL hU hB0 hE hB hy hr hs hQ hp hn f _ (closed_set hcl hf2) h2 h3)
          . exact hk.elim
        . exact hk.elim
      . exact hk.elim
    split at hk
    . rename_i i hf
      have hf1 := List.find?_some hf
      have hf2 := List.mem_of_find?_eq_some hf
      simp only [Bool.and_eq_true] at hf1
      simp only [vcAnyH] at hk
      split at hk
      . rename_i o ho
        split at hk
        . rename_i hpu
          have hfr : (∃ v, ∀ w, (execOp a.eval o).run E.P w = .ok (.value v) w) ∨ ∀ w n w', (execOp a.eval o).run E.P w ≠ .ok n w' := by
            rw [Bool.or_eq_true, Bool.and_eq_true, Bool.and_eq_true] at hpu
            rcases hpu with hpu | ⟨⟨_, h1⟩, h2⟩
            . exact pureOp_free hE.ty hpu a.eval
            . exact pureInt_free hE.ty h1 h h2
          have h1 := vcStillG_sound (K := fun a' => ∃ st' ρ', vcAnyH E ops kp n t cs.length (ordersH (puOf E) (heldLd ops xs) ops x f (listed.setIfInBounds i true)) st' kn ∧ StRel B ρ' st' a' fs w) hE [o] hk h (fun st' ρ' a' h1 h2 => ⟨st', ρ', h1, h2⟩)
          unfold wpStill at h1
          split at h1
          . rename_i hw
            unfold Oper.still at h1
            rcases hfr with ⟨v, hn1⟩ | hno
            . rw [hn1 w] at h1
              obtain ⟨_, st', ρ', h2, h3⟩ := h1
              exact wpLast_take ho hs hf1.1.2 (by simpa using hf2) hcl (lateB_spec hf1.2) (fun c a w hq => hQ _ _ ho c a _ w hq) (.inl ⟨hw, fun w _ => hn1 w⟩) (hS _ _ _ _ _ h) (vcAnyH_sound hS hb hL hU hB0 hE hB hy hr hs hQ hp hn f _ (closed_set hcl hf2) h2 h3)
            . exact absurd h1 (by
                generalize hres : (execOp a.eval o).run E.P w = res
                intro hc
                cases res with
                | ok n w' => exact hno w n w' hres
                | halt x w' => exact hc)
          . rename_i hw
            obtain ⟨st', ρ', h2, h3⟩ := h1
            exact wpLast_take ho hs hf1.1.2 (by simpa using hf2) hcl (lateB_spec hf1.2) (fun c a w hq => hQ _ _ ho c a _ w hq) (.inr ⟨by simpa using hw, rfl⟩) (hS _ _ _ _ _ h) (vcAnyH_sound hS hb hL hU hB0 hE hB hy hr hs hQ hp hn f _ (closed_set hcl hf2) h2 h3)
        . exact hk.elim
      . exact hk.elim
    split at hk
    . rename_i i hf
      have hf1 := List.find?_some hf
      have hf2 := List.mem_of_find?_eq_some hf
      simp only [Bool.and_eq_true] at hf1
      simp only [vcAnyH] at hk
      split at hk
      . rename_i o ho
        split at hk
        . rename_i ty x hop
          split at hk
          . rename_i s hld
            split at hk
            . rename_i s' hgu
              unfold St.heldLoad at hld
              split at hld
              . rename_i m off sl df r' hsx hstk
                split at hld
                . rename_i m' z h0 hz
                  split at hld
                  . rename_i he
                    obtain ⟨rfl, rfl⟩ := he
                    obtain ⟨g1, g2⟩ := hL _ _ _ _ _ _ _ h hstk h0
                    have hpt : (SV.ptr m' off).rel (cx B ρ st.hp w) (.pointer (some ⟨b, off, none⟩)) := by
                      obtain ⟨hn0, _⟩ := held_lt h hstk h0
                      exact ⟨hn0, b, g1, rfl⟩
                    obtain ⟨v, hv1, hv2⟩ := heldLoad_sound hE.ty hz hld g2 g1 hpt hb
                    rcases guarded_sound h hv2 hgu with ⟨hw, hv⟩ | ⟨hw, hv⟩
                    . have hx := heldOb_sound h hk.1 hw hsx
                      have hxe : a.eval x = .pointer (some ⟨b, off, none⟩) := by
                        obtain ⟨_, b', e1, e2⟩ := hx
                        simp only at e1
                        rw [g1] at e1
                        simp only [Value.pointer.injEq, Option.some.injEq, Addr.mk.injEq, and_true] at e1
                        rw [e2, e1]
                      obtain ⟨st2, h2, h3⟩ := setK_sound hk.2 h hv
                      exact wpLast_take ho hs hf1.1.2 (by simpa using hf2) hcl (lateB_spec hf1.2) (fun c a w hq => hQ _ _ ho c a _ w hq) (.inl ⟨hw, fun w' hw' => by
                        unfold execOp
                        rw [hop]
                        simp only [Sem.run_bind, hxe, hv1 w' hw', Result.andThen_ok]
                        rfl⟩) (hS _ _ _ _ _ h) (vcAnyH_sound hS hb hL hU hB0 hE hB hy hr hs hQ hp hn f _ (closed_set hcl hf2) h2 h3)
                    . obtain ⟨st2, h2, h3⟩ := setK_sound hk.2 h hv
                      exact wpLast_take ho hs hf1.1.2 (by simpa using hf2) hcl (lateB_spec hf1.2) (fun c a w hq => hQ _ _ ho c a _ w hq) (.inr ⟨hw, rfl⟩) (hS _ _ _ _ _ h) (vcAnyH_sound hS hb hL hU hB0 hE hB hy hr hs hQ hp hn f _ (closed_set hcl hf2) h2 h3)
                  . cases hld
                . cases hld
              . cases hld
            . exact hk.elim
          . exact hk.elim
        . exact hk.elim
      . exact hk.elim
    . refine ⟨fun he => absurd he (by simpa using hne), fun i hi => ?_⟩
      have h1 := bothH_mem hk hi
      split at h1
      . rename_i hix
        split at h1
        . rename_i hemp
          simp only [vcAnyH] at h1
          split at h1
          . rename_i o ho
            obtain ⟨st3, h3, h4, _⟩ := hU _ _ _ _ _ h1 h
            have h2 := vcOps_sound (L := Lg.plain E.P) (dfr := False) (Q := fun e a w => match e with | .normal => (i ≠ x → w.heap[b]? = w0.heap[b]?) ∧ wpLast E.P .any ops Q (fun w => w.heap[b]? = w0.heap[b]?) x f (listed.setIfInBounds i true) a w | .panic c => Q (.panic c) a w | _ => False) hE hB0 (fun hd hh => by rw [hy] at hh; cases hh) (fun hh => by rw [hr] at hh; cases hh) _ h3 h4
              (fun st' ρ' a' w' hk' h' => ⟨fun hne => absurd (Nat.eq_of_beq_eq_true hix) hne, wpLast_done (by simpa using hemp) (hn _ _ _ _ hk' h') _⟩) hp
            have h3 := gList_plain h2
            unfold wpOp
            rw [ho]
            simp only
            unfold wpList at h3
            split
            . rename_i hw
              rw [if_pos hw] at h3
              rcases h3 with h3 | ⟨_, a', w', h4⟩
              . left
                refine upon_exits (Q' := fun e a w => match e with | .normal => (i ≠ x → w.heap[b]? = w0.heap[b]?) ∧ wpLast E.P .any ops Q (fun w => w.heap[b]? = w0.heap[b]?) x f (listed.setIfInBounds i true) a w | .panic c => Q (.panic c) a w | _ => False) (fun _ _ _ hh => hh) (fun ⟨_, _, hh⟩ => hh) ?_
                exact h3
              . exact h4.elim
            . rename_i hw
              rw [if_neg hw] at h3
              exact h3
          . exact h1.elim
        . exact h1.elim
      simp only [vcAnyH] at h1
      split at h1
      . rename_i o ho
        have h2 := vcOps_sound (L := Lg.plain E.P) (dfr := False) (Q := fun e a w => match e with | .normal => (i ≠ x → w.heap[b]? = w0.heap[b]?) ∧ wpLast E.P .any ops Q (fun w => w.heap[b]? = w0.heap[b]?) x f (listed.setIfInBounds i true) a w | .panic c => Q (.panic c) a w | _ => False) hE hB (fun hd hh => by rw [hy] at hh; cases hh) (fun hh => by rw [hr] at hh; cases hh) _ h1 h
          (fun st' ρ' a' w' hk' h' => ⟨fun _ => hS _ _ _ _ _ h', vcAnyH_sound hS hb hL hU hB0 hE hB hy hr hs hQ hp hn f _ (closed_set hcl hi) hk' h'⟩) (fun s st' ρ' v a' w' hk' h' hv => by
            obtain ⟨st3, h5, h6, h7⟩ := hU _ _ _ _ _ hk' h'
            exact hp s st3 ρ' v a' w' h5 h6 (hv.le h7))
        have h3 := gList_plain h2
        unfold wpOp
        rw [ho]
        simp only
        unfold wpList at h3
        split
        . rename_i hw
          rw [if_pos hw] at h3
          rcases h3 with h3 | ⟨_, a', w', h4⟩
          . left
            refine upon_exits (Q' := fun e a w => match e with | .normal => (i ≠ x → w.heap[b]? = w0.heap[b]?) ∧ wpLast E.P .any ops Q (fun w => w.heap[b]? = w0.heap[b]?) x f (listed.setIfInBounds i true) a w | .panic c => Q (.panic c) a w | _ => False) (fun _ _ _ hh => hh) (fun ⟨_, _, hh⟩ => hh) ?_
            exact h3
          . exact h4.elim
        . rename_i hw
          rw [if_neg hw] at h3
          exact h3
      . exact h1.elim
theorem Env.Ok.quiet (hE : E.Ok gl) : Env.Ok { E with yld := none, rnd := true } gl := ⟨hE.ty, hE.fn, hE.seq, hE.df, hE.mixed⟩
theorem vcDraw_sound {r : Option Nat} (hE : E.Ok gl) (hB : B.gl = gl) {id : Nat} {ops : Array Oper} {Q : Exit → Act → World → Prop} (hq : ¬ LetsOut Q) {kn : St → Prop} (hk : vcDraw E ops st kn kp) (h : StRel B ρ st a fs w)
    (hn : ∀ st' ρ' a' w', kn st' → StRel B ρ' st' a' fs w' → Q .normal a' w')
    (hp : ∀ s st' ρ' v a' w', kp s st' → StRel B ρ' st' a' fs w' → s.rel (cx B ρ' st'.hp w') v → Q (.panic [{ v := v, recovered := false }]) a' w') : (Code.region id ops true).wpIn (fen r) 0 E.P Q a w := by
  have h' : StRel B ρ st a fs { w with drawn := w.drawn + 1 } := h.same_heap rfl rfl rfl rfl
  unfold vcDraw at hk
  split at hk
  . exact hk.elim
  rename_i hdef
  have hnd : ∀ (i : Nat) (o : Oper), ops[i]? = some o → ∀ c, o.op ≠ .defer c := by
    intro i o ho c e
    apply hdef
    rw [List.any_eq_true]
    exact ⟨o, by simpa using Array.mem_of_getElem? ho, by rw [e]; rfl⟩
  simp only at hk
  split at hk
  . rename_i ht
    have e : ops = ops.toList.toArray := by simp
    refine draw_any hE.mixed hq hnd ?_
    rw [e]
    rw [e] at ht
    simp only [List.size_toArray, Array.length_toList] at ht
    refine any_tail _ ht ?_
    refine vcStillG_sound hE _ hk h' (fun st' ρ' a' hs hr => ?_)
    have := vcOps_sound (E := { E with yld := none, rnd := true }) (L := Lg.plain E.P) (dfr := False) hE.quiet hB (fun hd h => by cases h) (fun h => by cases h) _ hs hr hn hp
    rw [e] at this
    exact gList_plain (by simpa using this)
  . split at hk
    . rename_i ht
      simp only [Bool.and_eq_true] at ht
      exact draw_any hE.mixed hq hnd (any_still ht.1 (vcStillG_sound hE _ hk h' (fun st' ρ' a' hs hr => hn st' ρ' a' _ hs hr)))
    . split at hk
      . rename_i hsel
        split at hk
        . rename_i n t cs hh
          unfold heldOf at hh
          split at hh
          . cases hh
          split at hh
          . rename_i n' hlk hls
            split at hh
            . rename_i t' cs' hob
              cases hh
              obtain ⟨B', f0, b, vs, hgl, h2, hlen, hb, hS, hU⟩ := hold_sound h' hls hob
              refine draw_any hE.mixed hq hnd (wpAny_exits (Q' := DrawQ (dstL ops) Q) (fun c a w hh => hh a ⟨rfl, rfl, fun _ _ => rfl⟩) (fun ⟨_, _, hh⟩ => hh) (fun _ _ hh => hh) _ _ _ _ ?_)
              refine wpAny_of_last (S := fun w' => w'.heap[b]? = w.heap[b]?) (x := lastX E.own ops) _ _ _ _ ?_
              refine vcAnyH_sound (E := { E with yld := none, rnd := true }) (B := B') (fs := f0 :: fs) (B0 := B) (fs0 := fs) (Q := DrawQ (dstL ops) Q) hS hb (fun ρ' st2 a2 w2 sl df r hr hst h0 => ?_) (fun K ρ' st' a' w' hkn hr => ?_) hB hE.quiet (hgl.trans hB) rfl rfl hsel (fun i o ho => drawQ_put ho) (fun s st' ρ' v a' w' hkp hr hv a2 hag => hp _ _ _ _ _ _ hkp (hr.forget hag) hv) hn _ _ (closed_start _ _ _) hk h2
              . obtain ⟨_, g1, g2, _⟩ := hU ρ' st2 a2 w2 sl df r hr hst h0
                exact ⟨g1, g2⟩
              . unfold St.unhold at hkn
                split at hkn
                . rename_i sl df r hls2 hstk2
                  split at hkn
                  . rename_i m hl0
                    split at hkn
                    . rename_i he
                      subst he
                      obtain ⟨_, _, _, hle, _, hfin⟩ := hU ρ' st' a' w' sl df r hr hstk2 hl0
                      exact ⟨_, hkn, hfin hls2, hle⟩
                    . exact hkn.elim
                  . exact hkn.elim
                . exact hkn.elim
            . cases hh
          . cases hh
        refine draw_any hE.mixed hq hnd (wpAny_exits (Q' := DrawQ (dstL ops) Q) (fun c a w hh => hh a ⟨rfl, rfl, fun _ _ => rfl⟩) (fun ⟨_, _, hh⟩ => hh) (fun _ _ hh => hh) _ _ _ _ ?_)
        exact vcAny_sound (E := { E with yld := none, rnd := true }) (Q := DrawQ (dstL ops) Q) hE.quiet hB rfl rfl hsel (fun i o ho => drawQ_put ho) (fun s st' ρ' v a' w' hkp hr hv a2 hag => hp _ _ _ _ _ _ hkp (hr.forget hag) hv) hn _ _ hk h'
      . exact hk.elim
end
end Go.Vc
end
section
namespace Go.Vc
open Go.RowKit
inductive PE where
  | var (i : Nat) (k : Kd)
  | own (i n : Nat)
  | same (i : Nat) (s : SV)
@[reducible] def PE.Tup : List PE → Type
  | [] => Unit
  | .var _ k :: l => k.T × PE.Tup l
  | .own _ _ :: l => PE.Tup l
  | .same _ _ :: l => PE.Tup l
def PE.mk : (l : List PE) → PE.Tup l → Slots
  | [], _ => []
  | .var i k :: l, y => (i, .dat k y.1) :: PE.mk l y.2
  | .own i n :: l, y => (i, .own n) :: PE.mk l y
  | .same i s :: l, y => (i, s) :: PE.mk l y
def PE.wf : (l : List PE) → PE.Tup l → Prop
  | [], _ => True
  | .var _ k :: l, y => k.wf y.1 ∧ PE.wf l y.2
  | .own _ _ :: l, y => PE.wf l y
  | .same _ _ :: l, y => PE.wf l y
inductive OE where
  | dead
  | row (e : Nat) (k : Kd)
  | rowSame (e : Nat) (k : Kd) (xs : List k.T)
  | var (t : Nat) (l : List PE)
  | iter (l : List Int)
  | iterSame (l : List Int) (pos : Nat)
  | miter (k : Kd) (xs : List (Int × k.T))
  | dfr
@[reducible] def OE.Tup : List OE → Type
  | [] => Unit
  | .dead :: l => OE.Tup l
  | .row _ k :: l => List k.T × OE.Tup l
  | .rowSame _ _ _ :: l => OE.Tup l
  | .var _ p :: l => PE.Tup p × OE.Tup l
  | .iter _ :: l => Nat × OE.Tup l
  | .iterSame _ _ :: l => OE.Tup l
  | .miter _ _ :: l => List Nat × OE.Tup l
  | .dfr :: l => OE.Tup l
def OE.mk : (l : List OE) → OE.Tup l → List (Option Ob)
  | [], _ => []
  | .dead :: l, z => none :: OE.mk l z
  | .row e k :: l, z => some (.row e k z.1) :: OE.mk l z.2
  | .rowSame e k xs :: l, z => some (.row e k xs) :: OE.mk l z
  | .var t p :: l, z => some (.var t ((PE.mk p z.1).map (·.2))) :: OE.mk l z.2
  | .iter t :: l, z => some (.siter t z.1) :: OE.mk l z.2
  | .iterSame t pos :: l, z => some (.siter t pos) :: OE.mk l z
  | .miter k xs :: l, z => some (.miter k xs z.1) :: OE.mk l z.2
  | .dfr :: l, z => some .dfr :: OE.mk l z
def OE.wf : (l : List OE) → OE.Tup l → Prop
  | [], _ => True
  | .dead :: l, z => OE.wf l z
  | .row _ k :: l, z => Kd.wf (.sl k) z.1 ∧ OE.wf l z.2
  | .rowSame _ _ _ :: l, z => OE.wf l z
  | .var _ p :: l, z => PE.wf p z.1 ∧ OE.wf l z.2
  | .iter _ :: l, z => OE.wf l z.2
  | .iterSame _ _ :: l, z => OE.wf l z
  | .miter _ _ :: l, z => OE.wf l z.2
  | .dfr :: l, z => OE.wf l z
def castM {a b : Kd} (h : a = b) (x : List (Int × a.T)) : List (Int × b.T) := h ▸ x
def St.mapAs (st : St) (k : Kd) : SV → Option (List (Int × k.T))
  | .own n => match st.hp[n]? with
    | some (some (.mapo k' xs)) => if h : k' = k then some (castM h xs) else none
    | _ => none
  | _ => none
def St.asData0 (st : St) (k : Kd) (s : SV) : Option k.T :=
  match s.as k with
  | some x => some x
  | none => match k with
    | .sl k => match st.list s with
      | some ⟨k', xs⟩ => if h : k' = k then some (castL h xs) else none
      | none => none
    | .mp k => st.mapAs k s
    | _ => none
def St.unleafR (st : St) : (k : Kd) → List SV → Option (k.T × List SV)
  | .pair a b, l => match st.unleafR a l with
    | some (x, l1) => match st.unleafR b l1 with
      | some (y, l2) => some ((x, y), l2)
      | none => none
    | none => none
  | .sl k, s :: l => match st.asData0 (.sl k) s with
    | some x => some (x, l)
    | none => none
  | .sl _, [] => none
  | k, l => unleaf k l
def St.asData (st : St) (k : Kd) (s : SV) : Option k.T :=
  match st.asData0 k s with
  | some x => some x
  | none => match k, s with
    | .pair a b, .agg l => match st.unleafR (.pair a b) l with
      | some (y, []) => some y
      | _ => none
    | _, _ => none
def sameSV : SV → SV → Option (List Prop)
  | .dat k x, .dat k' x' => if h : k' = k then some [castT h x' = x] else none
  | .cst c, .cst c' => some [c' = c]
  | .own n, .own n' => if n' = n then some [] else none
  | .sub n k o l, .sub n' k' o' l' => if n' = n ∧ k' = k then some [o' = o, l' = l] else none
  | .ptr n o, .ptr n' o' => if n' = n ∧ o' = o then some [] else none
  | .rptr n, .rptr n' => if n' = n then some [] else none
  | .fn f c, .fn f' c' => if f' = f then sameSVs c c' else none
  | .agg c, .agg c' => sameSVs c c'
  | .tup c, .tup c' => sameSVs c c'
  | .ifc t s, .ifc t' s' => if t' = t then sameSV s s' else none
  | .yld, .yld => some []
  | .aar k x, .aar k' x' => if h : k' = k then some [castL h x' = x] else none
  | _, _ => none
where sameSVs : List SV → List SV → Option (List Prop)
  | [], [] => some []
  | s :: l, s' :: l' => match sameSV s s', sameSVs l l' with
    | some p, some q => some (p ++ q)
    | _, _ => none
  | _, _ => none
mutual
def SV.names : SV → List Nat
  | .own n => [n]
  | .sub n _ _ _ => [n]
  | .ptr n _ => [n]
  | .rptr n => [n]
  | .oel n _ _ _ => [n]
  | .fn _ c => SV.namesL c
  | .tup c => SV.namesL c
  | .agg c => SV.namesL c
  | .ifc _ s => SV.names s
  | .gd _ s => SV.names s
  | .dat _ _ | .cst _ | .adr _ _ | .junk | .yld | .aar _ _ => []
def SV.namesL : List SV → List Nat
  | [] => []
  | s :: l => SV.names s ++ SV.namesL l
end
structure Cx.mv (C C' : Cx) (ok : Nat → Prop) : Prop where
  w : C'.w = C.w
  F : ∀ b, b < C.w.heap.size → C'.F b → C.F b
  ok : ∀ n, ok n → n < C'.N ∧ C'.ρ n = C.ρ n
  lp : C'.lp = C.lp
theorem VRep.mv {C C' : Cx} {ok : Nat → Prop} (h : C.mv C' ok) {k : Kd} {x : k.T} {v : Value} (hv : VRep C.w C.F k x v) : VRep C'.w C'.F k x v := by
  obtain ⟨cs, hr, hc⟩ := hv
  rw [h.w]
  exact ⟨cs, hr.mono h.F, hc⟩
mutual
theorem SV.rel.mv {C C' : Cx} {ok : Nat → Prop} (h : C.mv C' ok) : ∀ {s : SV} {v : Value}, (∀ n ∈ s.names, ok n) → s.rel C v → s.rel C' v
  | .dat k x, v, _, hr => VRep.mv h hr
  | .cst c, v, _, hr => hr
  | .own n, v, hn, hr => by
    obtain ⟨h1, h2⟩ := h.ok n (hn n (by simp [SV.names]))
    exact ⟨h1, by rw [h2]; exact hr.2⟩
  | .sub n k off len, v, hn, hr => by
    obtain ⟨h1, h2⟩ := h.ok n (hn n (by simp [SV.names]))
    exact ⟨h1, by rw [h2]; exact hr.2⟩
  | .ptr n o, v, hn, hr => by
    obtain ⟨h1, h2⟩ := h.ok n (hn n (by simp [SV.names]))
    exact ⟨h1, by rw [h2]; exact hr.2⟩
  | .rptr n, v, hn, hr => by
    obtain ⟨h1, h2⟩ := h.ok n (hn n (by simp [SV.names]))
    exact ⟨h1, by rw [h2]; exact hr.2⟩
  | .adr k x, v, _, hr => by
    obtain ⟨ad, cs, e, h1, h2, h3, h4⟩ := hr
    exact ⟨ad, cs, e, by rw [h.w]; exact h1.mono h.F, by rw [h.w]; exact h2, fun hc => h3 (h.F _ h2 hc), by rw [h.w]; exact h4⟩
  | .oel n k i off, v, hn, hr => by
    obtain ⟨h1, h2⟩ := h.ok n (hn n (by simp [SV.names]))
    exact ⟨h1, by rw [h2]; exact hr.2⟩
  | .fn f cap, v, hn, hr => by obtain ⟨vs, e, hs⟩ := hr; exact ⟨vs, e, SV.rels.mv h hn hs⟩
  | .tup l, v, hn, hr => by obtain ⟨vs, e, hs⟩ := hr; exact ⟨vs, e, SV.rels.mv h hn hs⟩
  | .agg l, v, hn, hr => by obtain ⟨vs, e, hs⟩ := hr; exact ⟨vs, e, SV.rels.mv h hn hs⟩
  | .ifc t s, v, hn, hr => by obtain ⟨u, e, hs⟩ := hr; exact ⟨u, e, SV.rel.mv h hn hs⟩
  | .gd p s, v, hn, hr => ⟨fun hp => SV.rel.mv h hn (hr.1 hp), hr.2⟩
  | .junk, _, _, _ => trivial
  | .yld, v, _, hr => by
    have hr : v = _ := hr
    show v = _
    rw [h.lp]; exact hr
  | .aar k xs, v, _, hr => by
    obtain ⟨ad, e, h1, h2, h3⟩ := hr
    refine ⟨ad, e, by rw [h.w]; exact h1, fun hc => h2 (h.F _ h1 hc), ?_⟩
    rw [h.w]
    exact h3.imp (fun x _ cs hr => hr.mono h.F) fun _ _ hu => hu
theorem SV.rels.mv {C C' : Cx} {ok : Nat → Prop} (h : C.mv C' ok) : ∀ {l : List SV} {vs : List Value}, (∀ n ∈ SV.namesL l, ok n) → SV.rels C l vs → SV.rels C' l vs
  | [], _, _, hr => hr
  | s :: l, vs, hn, hr => by
    obtain ⟨v, r, e, h1, h2⟩ := hr
    exact ⟨v, r, e, SV.rel.mv h (fun n hm => hn n (by simp [SV.namesL, hm])) h1, SV.rels.mv h (fun n hm => hn n (by simp [SV.namesL, hm])) h2⟩
end
mutual
theorem sameSV_rel {C : Cx} : ∀ {s s' : SV} {obs : List Prop} {v : Value}, sameSV s s' = some obs → (∀ p ∈ obs, p) → s'.rel C v → s.rel C v
  | .dat k x, s', obs, v, h, ho, hr => by
    cases s' <;> simp only [sameSV] at h <;> try (cases h; done)
    split at h
    . rename_i k' x' e
      subst e
      cases h
      have : x' = x := ho _ (by simp [castT])
      rw [← this]; exact hr
    . cases h
  | .cst c, s', obs, v, h, ho, hr => by
    cases s' <;> simp only [sameSV] at h <;> try (cases h; done)
    rename_i c'
    cases h
    have : c' = c := ho _ (by simp)
    rw [← this]; exact hr
  | .own n, s', obs, v, h, ho, hr => by
    cases s' <;> simp only [sameSV] at h <;> try (cases h; done)
    split at h
    . rename_i e; rw [← e]; exact hr
    . cases h
  | .sub n k o l, s', obs, v, h, ho, hr => by
    cases s' <;> simp only [sameSV] at h <;> try (cases h; done)
    split at h
    . rename_i n' k' o' l' e
      cases h
      have h1 : o' = o := ho _ (by simp)
      have h2 : l' = l := ho _ (by simp)
      rw [← h1, ← h2, ← e.1, ← e.2]; exact hr
    . cases h
  | .ptr n o, s', obs, v, h, ho, hr => by
    cases s' <;> simp only [sameSV] at h <;> try (cases h; done)
    split at h
    . rename_i e; rw [← e.1, ← e.2]; exact hr
    . cases h
  | .rptr n, s', obs, v, h, ho, hr => by
    cases s' <;> simp only [sameSV] at h <;> try (cases h; done)
    split at h
    . rename_i e; rw [← e]; exact hr
    . cases h
  | .fn f c, s', obs, v, h, ho, hr => by
    cases s' <;> simp only [sameSV] at h <;> try (cases h; done)
    split at h
    . rename_i e
      rw [← e]
      obtain ⟨vs, e2, h2⟩ := hr
      exact ⟨vs, e2, sameSVs_rel h ho h2⟩
    . cases h
  | .agg c, s', obs, v, h, ho, hr => by
    cases s' <;> simp only [sameSV] at h <;> try (cases h; done)
    obtain ⟨vs, e2, h2⟩ := hr
    exact ⟨vs, e2, sameSVs_rel h ho h2⟩
  | .tup c, s', obs, v, h, ho, hr => by
    cases s' <;> simp only [sameSV] at h <;> try (cases h; done)
    obtain ⟨vs, e2, h2⟩ := hr
    exact ⟨vs, e2, sameSVs_rel h ho h2⟩
  | .ifc t s, s', obs, v, h, ho, hr => by
    cases s' <;> simp only [sameSV] at h <;> try (cases h; done)
    split at h
    . rename_i e
      rw [← e]
      obtain ⟨u, e2, h2⟩ := hr
      exact ⟨u, e2, sameSV_rel h ho h2⟩
    . cases h
  | .adr k x, s', obs, v, h, ho, hr => by cases s' <;> simp only [sameSV] at h <;> cases h
  | .oel n k i o, s', obs, v, h, ho, hr => by cases s' <;> simp only [sameSV] at h <;> cases h
  | .gd p s, s', obs, v, h, ho, hr => by cases s' <;> simp only [sameSV] at h <;> cases h
  | .junk, s', obs, v, h, ho, hr => trivial
  | .yld, s', obs, v, h, ho, hr => by
    cases s' <;> simp only [sameSV] at h <;> try (cases h; done)
    exact hr
  | .aar k x, s', obs, v, h, ho, hr => by
    cases s' <;> simp only [sameSV] at h <;> try (cases h; done)
    split at h
    . rename_i k' x' e
      subst e
      cases h
      have : x' = x := ho _ (by simp [castL])
      rw [← this]; exact hr
    . cases h
theorem sameSVs_rel {C : Cx} : ∀ {l l' : List SV} {obs : List Prop} {vs : List Value}, sameSV.sameSVs l l' = some obs → (∀ p ∈ obs, p) → SV.rels C l' vs → SV.rels C l vs
  | [], l', obs, vs, h, ho, hr => by
    cases l' <;> simp only [sameSV.sameSVs] at h
    . exact hr
    . cases h
  | s :: l, l', obs, vs, h, ho, hr => by
    cases l' with
    | nil => simp only [sameSV.sameSVs] at h; cases h
    | cons s' l' =>
      simp only [sameSV.sameSVs] at h
      split at h
      . rename_i p q e1 e2
        cases h
        obtain ⟨v, r, e, h1, h2⟩ := hr
        exact ⟨v, r, e, sameSV_rel e1 (fun x hx => ho x (List.mem_append_left _ hx)) h1, sameSVs_rel e2 (fun x hx => ho x (List.mem_append_right _ hx)) h2⟩
      . cases h
end
def St.look (st : St) (i : Nat) : SV := match st.sl.lookup i with | some s => s | none => .junk
def PE.fit (st : St) (look : Nat → SV) : (l : List PE) → Option (List Prop × PE.Tup l)
  | [] => some ([], ())
  | .var i k :: l => match st.asData k (look i), PE.fit st look l with
    | some x, some (o, y) => some (o, (x, y))
    | _, _ => none
  | .own _ _ :: l => match PE.fit st look l with
    | some (o, y) => some (o, y)
    | none => none
  | .same i s :: l => match sameSV s (look i), PE.fit st look l with
    | some p, some (o, y) => some (p ++ o, y)
    | _, _ => none
def PE.sig (look : Nat → SV) : List PE → List (Nat × SV)
  | [] => []
  | .own i n :: l => (n, look i) :: PE.sig look l
  | .var _ _ :: l => PE.sig look l
  | .same _ _ :: l => PE.sig look l
def srcOf (sig : List (Nat × SV)) (n : Nat) : SV := match sig.lookup n with | some s => s | none => .own n
def cellLook (st : St) (n : Nat) : Nat → SV := match st.hp[n]? with
  | some (some (.var _ cs)) => fun i => match cs[i]? with | some s => s | none => .junk
  | _ => fun _ => .junk
def OE.sig (st : St) : Nat → List OE → List (Nat × SV)
  | _, [] => []
  | n, .var _ p :: l => PE.sig (cellLook st n) p ++ OE.sig st (n + 1) l
  | n, _ :: l => OE.sig st (n + 1) l
def OE.fit (st : St) (sig : List (Nat × SV)) : (n : Nat) → (l : List OE) → Option (List Prop × OE.Tup l)
  | _, [] => some ([], ())
  | n, .dead :: l => match OE.fit st sig (n + 1) l with
    | some (o, z) => some (o, z)
    | none => none
  | n, .row e k :: l => match OE.fit st sig (n + 1) l with
    | some (o, z) => match srcOf sig n with
      | .own m => match st.hp[m]? with
        | some (some (.row e' k' xs)) => if h : k' = k then (if e' = e then some (o, (castL h xs, z)) else none) else none
        | _ => none
      | .cst c => if nilSlice c then some (o, ([], z)) else none
      | _ => none
    | none => none
  | n, .rowSame e k xs :: l => match OE.fit st sig (n + 1) l with
    | some (o, z) => match srcOf sig n with
      | .own m => match st.hp[m]? with
        | some (some (.row e' k' xs')) => if h : k' = k then (if e' = e then some ((castL h xs' = xs) :: o, z) else none) else none
        | _ => none
      | _ => none
    | none => none
  | n, .var t p :: l => match OE.fit st sig (n + 1) l, st.hp[n]? with
    | some (o, z), some (some (.var t' cs)) => if t' = t ∧ cs.length = p.length then
        match PE.fit st (cellLook st n) p with
        | some (q, y) => some (q ++ o, (y, z))
        | none => none
      else none
    | _, _ => none
  | n, .iter t :: l => match OE.fit st sig (n + 1) l, st.hp[n]? with
    | some (o, z), some (some (.siter t' pos)) => some ((t' = t) :: o, (pos, z))
    | _, _ => none
  | n, .iterSame t p :: l => match OE.fit st sig (n + 1) l, st.hp[n]? with
    | some (o, z), some (some (.siter t' pos)) => some ((t' = t) :: (pos = p) :: o, z)
    | _, _ => none
  | n, .miter k xs :: l => match OE.fit st sig (n + 1) l, st.hp[n]? with
    | some (o, z), some (some (.miter k' xs' seen)) => if h : k' = k then some ((castM h xs' = xs) :: o, (seen, z)) else none
    | _, _ => none
  | n, .dfr :: l => match OE.fit st sig (n + 1) l, st.hp[n]? with
    | some (o, z), some (some .dfr) => some (o, z)
    | _, _ => none
def PE.names : List PE → List Nat
  | [] => []
  | .same _ s :: l => s.names ++ PE.names l
  | .var _ _ :: l => PE.names l
  | .own _ _ :: l => PE.names l
def PE.taken (look : Nat → SV) : List PE → List Nat
  | [] => []
  | .var i _ :: l => (look i).names ++ PE.taken look l
  | .same _ _ :: l => PE.taken look l
  | .own _ _ :: l => PE.taken look l
def PE.places : List PE → List Nat
  | [] => []
  | .var i _ :: l => i :: PE.places l
  | .same i _ :: l => i :: PE.places l
  | .own i _ :: l => i :: PE.places l
def sameSrc : SV → SV → Bool
  | .own m, .own m' => m == m'
  | .cst c, .cst c' => nilSlice c && nilSlice c'
  | _, _ => false
def nodupB : List Nat → Bool
  | [] => true
  | a :: l => !l.contains a && nodupB l
def OE.srcs (sig : List (Nat × SV)) : Nat → List OE → List Nat
  | _, [] => []
  | n, .dead :: l => OE.srcs sig (n + 1) l
  | n, .row _ _ :: l => match srcOf sig n with | .own m => m :: OE.srcs sig (n + 1) l | _ => OE.srcs sig (n + 1) l
  | n, .rowSame _ _ _ :: l => match srcOf sig n with | .own m => m :: OE.srcs sig (n + 1) l | _ => OE.srcs sig (n + 1) l
  | n, .var _ _ :: l => n :: OE.srcs sig (n + 1) l
  | n, .iter _ :: l => n :: OE.srcs sig (n + 1) l
  | n, .iterSame _ _ :: l => n :: OE.srcs sig (n + 1) l
  | n, .miter _ _ :: l => n :: OE.srcs sig (n + 1) l
  | n, .dfr :: l => n :: OE.srcs sig (n + 1) l
def OE.allNames : List OE → List Nat
  | [] => []
  | .var _ p :: l => PE.names p ++ OE.allNames l
  | _ :: l => OE.allNames l
def OE.allTaken (st : St) : Nat → List OE → List Nat
  | _, [] => []
  | n, .var _ p :: l => PE.taken (cellLook st n) p ++ OE.allTaken st (n + 1) l
  | n, _ :: l => OE.allTaken st (n + 1) l
def OE.varB (sig : List (Nat × SV)) : Nat → List OE → Bool
  | _, [] => true
  | n, .var _ p :: l => (match sig.lookup n with | none => true | some _ => false) && (PE.places p == List.range p.length) && OE.varB sig (n + 1) l
  | n, .iter _ :: l => (match sig.lookup n with | none => true | some _ => false) && OE.varB sig (n + 1) l
  | n, .iterSame _ _ :: l => (match sig.lookup n with | none => true | some _ => false) && OE.varB sig (n + 1) l
  | n, .miter _ _ :: l => (match sig.lookup n with | none => true | some _ => false) && OE.varB sig (n + 1) l
  | n, .dfr :: l => (match sig.lookup n with | none => true | some _ => false) && OE.varB sig (n + 1) l
  | n, _ :: l => OE.varB sig (n + 1) l
def slNames (sl : Slots) : List Nat := SV.namesL (sl.map (·.2))
def dfNames : List DE → List Nat
  | [] => []
  | .mark n :: l => n :: dfNames l
  | .fn _ c :: l => SV.namesL c ++ dfNames l
def stkNames (l : List (Slots × List DE)) : List Nat := l.flatMap fun p => slNames p.1 ++ dfNames p.2
def slFit : Slots → Slots → Option (List Prop)
  | [], _ => some []
  | (i, s) :: l, sl' => match sl'.lookup i with
    | some s' => match sameSV s s', slFit l sl' with
      | some p, some q => some (p ++ q)
      | _, _ => none
    | none => none
def dfFit : List DE → List DE → Option (List Prop)
  | [], [] => some []
  | .mark n :: l, .mark n' :: l' => if n' = n then dfFit l l' else none
  | .fn f c :: l, .fn f' c' :: l' => if f' = f then match sameSV.sameSVs c c', dfFit l l' with
      | some p, some q => some (p ++ q)
      | _, _ => none
    else none
  | _, _ => none
def stkFit : List (Slots × List DE) → List (Slots × List DE) → Option (List Prop)
  | [], [] => some []
  | s :: l, s' :: l' => match slFit s.1 s'.1, dfFit s.2 s'.2, stkFit l l' with
    | some p, some d, some q => some (p ++ (d ++ q))
    | _, _, _ => none
  | _, _ => none
def Jump.eqb : Jump → Jump → Bool
  | .ret, .ret => true
  | .exit i, .exit j => i == j
  | _, _ => false
def LS.eqb : LS → LS → Bool
  | .no, .no => true
  | .ready, .ready => true
  | .busy, .busy => true
  | .done i, .done j => i.eqb j
  | _, _ => false
theorem LS.eqb_eq {a b : LS} (h : a.eqb b = true) : a = b := by
  cases a <;> cases b <;> simp_all [LS.eqb]
  rename_i i j
  cases i <;> cases j <;> simp_all [Jump.eqb]
def cleanSl : List Nat → Slots → Slots
  | _, [] => []
  | seen, (i, s) :: r => if seen.contains i then cleanSl seen r else
    match sameSV s s with
    | some _ => (i, s) :: cleanSl (i :: seen) r
    | none => cleanSl (i :: seen) r
def cleanStk (l : List (Slots × List DE)) : List (Slots × List DE) := l.map fun p => (cleanSl [] p.1, p.2)
def okSrc (st : St) (sig : List (Nat × SV)) (N : Nat) (n : Nat) : Bool := n < N && n < st.hp.length && (match srcOf sig n with | .own m => m == n | _ => false)
def St.fitB (st : St) (pl : List PE) (ol : List OE) (stk0 : List (Slots × List DE)) (df0 : List DE) (ls0 : LS) : Bool :=
  let sig := PE.sig st.look pl ++ OE.sig st 0 ol
  let srcs := OE.srcs sig 0 ol
  nodupB srcs && OE.varB sig 0 ol && sig.all (fun p => p.1 < ol.length && sameSrc (srcOf sig p.1) p.2) &&
  (PE.names pl ++ OE.allNames ol ++ (dfNames df0 ++ stkNames stk0)).all (okSrc st sig ol.length) &&
  (PE.taken st.look pl ++ OE.allTaken st 0 ol).all (fun m => !srcs.contains m) && (PE.places pl).all (fun i => i < st.n) && LS.eqb st.ls ls0
def St.fitK (st : St) (pl : List PE) (ol : List OE) (stk0 : List (Slots × List DE)) (df0 : List DE) (ls0 : LS) (K : PE.Tup pl → OE.Tup ol → Prop) : Prop :=
  if st.fitB pl ol stk0 df0 ls0 then
    match PE.fit st st.look pl, OE.fit st (PE.sig st.look pl ++ OE.sig st 0 ol) 0 ol, stkFit stk0 st.stk, dfFit df0 st.df with
    | some (o, y), some (o', z), some o'', some d => conj o (conj o' (conj o'' (conj d (K y z))))
    | _, _, _, _ => False
  else False
def headSt (st : St) (pl : List PE) (ol : List OE) (stk0 : List (Slots × List DE)) (df0 : List DE) (ls0 : LS) (y : PE.Tup pl) (z : OE.Tup ol) : St := { n := st.n, sl := PE.mk pl y, kn := [], stk := stk0, hp := OE.mk ol z, df := df0, ls := ls0, gl := st.gl }
end Go.Vc
end
section
namespace Go.Vc
open Go.RowKit
section
variable {B : Base} {ρ : Nat → Value} {st : St} {a : Act} {fs : List Act} {w : World}
theorem as_wf {w : World} {F : Nat → Prop} {k : Kd} {x : k.T} {v : Value} (h : VRep w F k x v) : k.wf x := by
  obtain ⟨cs, h1, _⟩ := h
  exact h1.wf
def handleOf (ρ : Nat → Value) (sig : List (Nat × SV)) (n : Nat) : Value :=
  match srcOf sig n with
  | .own m => ρ m
  | .cst c => c
  | _ => ρ n
structure FitCx (B : Base) (ρ : Nat → Value) (st : St) (w : World) (C' : Cx) (sig : List (Nat × SV)) (srcs : List Nat) : Prop where
  w : C'.w = w
  rho : ∀ n, C'.ρ n = handleOf ρ sig n
  F : ∀ b, C'.F b → B.Fb b ∨ ∃ m, m ∈ srcs ∧ live st.hp m ∧ blk (ρ m) = some b
  lp : C'.lp = B.lp
theorem FitCx.mv {C' : Cx} {sig : List (Nat × SV)} {srcs : List Nat} (f : FitCx B ρ st w C' sig srcs) : (cx B ρ st.hp w).mv C' (fun n => okSrc st sig C'.N n = true) where
  w := f.w
  F b _ hb := by
    rcases f.F b hb with h | ⟨m, _, h1, h2⟩
    . exact .inl h
    . exact .inr ⟨m, h1, h2⟩
  ok n hn := by
    simp only [okSrc, Bool.and_eq_true, decide_eq_true_eq] at hn
    refine ⟨hn.1.1, ?_⟩
    rw [f.rho]
    unfold handleOf
    have := hn.2
    split at this
    . rename_i m hm
      rw [hm]
      simp only [beq_iff_eq] at this
      rw [this]
    . cases this
  lp := f.lp
theorem unleafL_names {α : Type} {u : List SV → Option (α × List SV)} (hu : ∀ l l' x, u l = some (x, l') → ∀ m ∈ SV.namesL l', m ∈ SV.namesL l) : ∀ (n : Nat) {l l' : List SV} {xs : List α}, unleafL u n l = some (xs, l') → ∀ m ∈ SV.namesL l', m ∈ SV.namesL l
  | 0, l, l', xs, h, m, hm => by cases h; exact hm
  | n + 1, l, l', xs, h, m, hm => by
    simp only [unleafL] at h
    split at h
    . rename_i x l1 e1
      split at h
      . rename_i ys l2 e2
        cases h
        exact hu _ _ _ e1 m (unleafL_names hu n e2 m hm)
      . cases h
    . cases h
theorem unleaf_names : ∀ {k : Kd} {l l' : List SV} {x : k.T}, unleaf k l = some (x, l') → ∀ m ∈ SV.namesL l', m ∈ SV.namesL l := by
  intro k
  induction k with
  | pair a b iha ihb =>
    intro l l' x h m hm
    simp only [unleaf] at h
    split at h
    . rename_i y l1 e1
      split at h
      . rename_i z l2 e2
        cases h
        exact iha e1 m (ihb e2 m hm)
      . cases h
    . cases h
  | unit => intro l l' x h m hm; simp only [unleaf] at h; cases h; exact hm
  | arr n k ih =>
    intro l l' x h m hm
    simp only [unleaf] at h
    exact unleafL_names (fun l l' x h => ih h) n h m hm
  | _ =>
    intro l l' x h m hm
    cases l with
    | nil => simp only [unleaf] at h; cases h
    | cons s l =>
      simp only [unleaf] at h
      split at h
      . cases h; simp [SV.namesL, hm]
      . cases h
theorem asData0_rel (h : StRel B ρ st a fs w) {C' : Cx} {sig : List (Nat × SV)} {srcs : List Nat} (f : FitCx B ρ st w C' sig srcs) {k : Kd} {s : SV} {x : k.T} {v : Value} (hx : st.asData0 k s = some x)
    (hs : s.rel (cx B ρ st.hp w) v) (ht : ∀ m ∈ s.names, m ∉ srcs) : VRep C'.w C'.F k x v := by
  unfold St.asData0 at hx
  split at hx
  . rename_i y hy
    cases hx
    exact VRep.mv f.mv (as_rel hy hs)
  . rename_i hnone
    clear hnone
    split at hx
    . split at hx
      . rename_i k' xs hl
        split at hx
        . rename_i e
          subst e
          cases hx
          obtain ⟨A, c, h1, h2, h3, h4⟩ := list_rel h hs hl
          refine VRep_sl.2 ⟨A, c, h1, h2, h3, fun hne => ?_⟩
          obtain ⟨ad, rfl, h5, h6⟩ := h4 hne
          have hF : ¬ C'.F ad.block := by
            intro hb
            -- whose block is it?
            have key : ∀ n, n ∈ s.names → live st.hp n → blk (ρ n) = some ad.block → False := by
              intro n hn hl' hbn
              rcases f.F _ hb with hb | ⟨m, hm1, hm2, hm3⟩
              . exact (h.h.own n _ hl' hbn).2 hb
              . have := h.h.sep m n _ hm2 hl' hm3 hbn
                subst this
                exact ht _ hn hm1
            cases s <;> simp only [St.list] at hl <;> try (cases hl; done)
            case dat k0 x0 =>
              cases k0 <;> simp only at hl <;> try (cases hl; done)
              cases hl
              obtain ⟨A', c', e1, _, _, e2⟩ := VRep_sl.1 hs
              rw [h1] at e1
              simp only [Value.slice.injEq] at e1
              obtain ⟨ad', e3, _, e4, _⟩ := e2 hne
              rw [← e1.1] at e3
              cases e3
              rcases f.F _ hb with hb | ⟨m, _, hm2, hm3⟩
              . exact e4 (.inl hb)
              . exact e4 (.inr ⟨m, hm2, hm3⟩)
            case own n =>
              obtain ⟨e', he⟩ := St.row_some hl
              refine key n (by simp [SV.names]) ⟨_, he⟩ ?_
              rw [← show v = ρ n from hs.2.1, h1]; rfl
            case sub n k0 off len =>
              split at hl
              . rename_i k'' xs' hrw
                split at hl
                . obtain ⟨e', he⟩ := St.row_some hrw
                  refine key n (by simp [SV.names]) ⟨_, he⟩ ?_
                  obtain ⟨_, A0, m, cap, A', cc, e2, e3, e4, _, _, e5⟩ := hs
                  simp only at e2
                  rw [h1] at e3
                  simp only [Value.slice.injEq] at e3
                  rcases e5 with e5 | e5
                  . rw [e2]
                    rw [← e3.1] at e5
                    cases A0 with
                    | none => cases e5
                    | some ad0 => simp only [Option.map_some, Option.some.injEq] at e5; simp [blk, e5, add_block]
                  . exfalso
                    have hpos : 0 < xs.length := List.length_pos_iff.2 hne
                    omega
                . cases hl
              . cases hl
          refine ⟨ad, rfl, by rw [f.w]; exact h5, hF, ?_⟩
          have hm := f.mv.F
          rw [f.w]
          exact h6.imp (fun x _ cs hr => hr.mono (fun b hb hc => hm b hb hc)) (fun _ _ hu => hu)
        . cases hx
      . cases hx
    . unfold St.mapAs at hx
      split at hx
      . rename_i n
        split at hx
        . rename_i k' xs hob
          split at hx
          . rename_i e
            subst e
            cases hx
            obtain ⟨r, es, clock, h1, h2, h3, h4, h5⟩ := h.h.obj n _ hob
            have h2 : w.heap[r]? = some (.map es clock) := h2
            have hv : v = .map (some r) := hs.2.1.trans h1
            refine VRep_mp.2 (.inr ⟨r, es, clock, by rw [hv], ⟨by rw [f.w]; exact (Array.getElem?_eq_some_iff.1 h2).1, fun hb => ?_, by rw [f.w]; exact h2, h4, h5⟩, ?_⟩)
            . rcases f.F _ hb with hb | ⟨m, hm1, hm2, hm3⟩
              . exact (h.h.own n _ ⟨_, hob⟩ (by rw [h1]; rfl)).2 hb
              . have := h.h.sep m n _ hm2 ⟨_, hob⟩ hm3 (by rw [h1]; rfl)
                subst this
                exact ht _ (by simp [SV.names]) hm1
            . have hm := f.mv.F
              rw [f.w]
              exact h3.imp fun x _ c hc => hc.mono fun b hb hc => hm b hb hc
          . cases hx
        . cases hx
      . cases hx
    . cases hx
theorem unleafR_rel (h : StRel B ρ st a fs w) {C' : Cx} {sig : List (Nat × SV)} {srcs : List Nat} (f : FitCx B ρ st w C' sig srcs) : ∀ {k : Kd} {l l' : List SV} {x : k.T} {vs : List Value}, st.unleafR k l = some (x, l') →
    SV.rels (cx B ρ st.hp w) l vs → (∀ m ∈ SV.namesL l, m ∉ srcs) → ∃ v1 v2, vs = v1 ++ v2 ∧ Rep C'.w C'.F k x v1 ∧ SV.rels (cx B ρ st.hp w) l' v2 ∧ ∀ m ∈ SV.namesL l', m ∉ srcs := by
  have base : ∀ {k : Kd} {l l' : List SV} {x : k.T} {vs : List Value}, unleaf k l = some (x, l') → SV.rels (cx B ρ st.hp w) l vs → (∀ m ∈ SV.namesL l, m ∉ srcs) → ∃ v1 v2, vs = v1 ++ v2 ∧ Rep C'.w C'.F k x v1 ∧ SV.rels (cx B ρ st.hp w) l' v2 ∧ ∀ m ∈ SV.namesL l', m ∉ srcs := by
    intro k l l' x vs hu hr hn
    obtain ⟨v1, v2, e, h1, h2⟩ := unleaf_rel hu hr
    refine ⟨v1, v2, e, ?_, h2, fun m hm => hn m (unleaf_names hu m hm)⟩
    have := f.mv
    rw [f.w]
    exact h1.mono fun b hb hF => this.F b hb hF
  intro k
  induction k with
  | pair p q ihp ihq =>
    intro l l' x vs hu hr hn
    simp only [St.unleafR] at hu
    split at hu
    . rename_i y l1 e1
      split at hu
      . rename_i z l2 e2
        cases hu
        obtain ⟨v1, v2, rfl, h1, h2, h3⟩ := ihp e1 hr hn
        obtain ⟨v3, v4, rfl, h4, h5, h6⟩ := ihq e2 h2 h3
        exact ⟨v1 ++ v3, v4, by rw [List.append_assoc], ⟨v1, v3, rfl, h1, h4⟩, h5, h6⟩
      . cases hu
    . cases hu
  | sl q ih =>
    intro l l' x vs hu hr hn
    cases l with
    | nil => simp only [St.unleafR] at hu; cases hu
    | cons s l =>
      simp only [St.unleafR] at hu
      split at hu
      . rename_i y e
        cases hu
        obtain ⟨v, r, rfl, h1, h2⟩ := hr
        have := asData0_rel h f e h1 (fun m hm => hn m (by simp [SV.namesL, hm]))
        refine ⟨[v], r, rfl, (VRep_one (k := .sl q) rfl).1 this, h2, fun m hm => hn m (by simp [SV.namesL, hm])⟩
      . cases hu
  | int _ => intro l l' x vs hu hr hn; exact base (by simpa only [St.unleafR] using hu) hr hn
  | bool => intro l l' x vs hu hr hn; exact base (by simpa only [St.unleafR] using hu) hr hn
  | str => intro l l' x vs hu hr hn; exact base (by simpa only [St.unleafR] using hu) hr hn
  | unit => intro l l' x vs hu hr hn; exact base (by simpa only [St.unleafR] using hu) hr hn
  | err => intro l l' x vs hu hr hn; exact base (by simpa only [St.unleafR] using hu) hr hn
  | fn => intro l l' x vs hu hr hn; exact base (by simpa only [St.unleafR] using hu) hr hn
  | arr _ _ _ => intro l l' x vs hu hr hn; exact base (by simpa only [St.unleafR] using hu) hr hn
  | mp _ _ => intro l l' x vs hu hr hn; exact base (by simpa only [St.unleafR] using hu) hr hn
theorem asData_rel (h : StRel B ρ st a fs w) {C' : Cx} {sig : List (Nat × SV)} {srcs : List Nat} (f : FitCx B ρ st w C' sig srcs) {k : Kd} {s : SV} {x : k.T} {v : Value} (hx : st.asData k s = some x)
    (hs : s.rel (cx B ρ st.hp w) v) (ht : ∀ m ∈ s.names, m ∉ srcs) : VRep C'.w C'.F k x v := by
  unfold St.asData at hx
  split at hx
  . rename_i y hy
    cases hx
    exact asData0_rel h f hy hs ht
  . rename_i hnone
    clear hnone
    split at hx
    . rename_i p q l
      split at hx
      . rename_i y e
        cases hx
        obtain ⟨vs, rfl, hr⟩ := hs
        obtain ⟨v1, v2, rfl, h1, h2, _⟩ := unleafR_rel h f e hr (fun m hm => ht m (by simpa [SV.names] using hm))
        have h2 : v2 = [] := h2
        subst h2
        exact ⟨v1, h1, by simp [Kd.isAgg]⟩
      . cases hx
    . cases hx
theorem PE_fit (h : StRel B ρ st a fs w) {C' : Cx} {sig : List (Nat × SV)} {srcs : List Nat} (f : FitCx B ρ st w C' sig srcs) {look : Nat → SV} {val : Nat → Value} (hlook : ∀ i, (look i).rel (cx B ρ st.hp w) (val i)) :
    ∀ {pl : List PE} {o : List Prop} {y : PE.Tup pl}, PE.fit st look pl = some (o, y) → (∀ p ∈ o, p) → (∀ n ∈ PE.names pl, okSrc st sig C'.N n = true) → (∀ m ∈ PE.taken look pl, m ∉ srcs) →
      (∀ p ∈ PE.sig look pl, p.1 < C'.N ∧ sameSrc (srcOf sig p.1) p.2 = true) → PE.wf pl y ∧ ∀ i s, (i, s) ∈ PE.mk pl y → s.rel C' (val i)
  | [], o, y, hf, ho, _, _, _ => ⟨trivial, fun i s hm => by cases hm⟩
  | .var i k :: l, o, y, hf, ho, hn, ht, hs => by
    simp only [PE.fit] at hf
    split at hf
    . rename_i x o' y' e1 e2
      cases hf
      obtain ⟨h1, h2⟩ := PE_fit h f hlook e2 ho (fun n hm => hn n hm) (fun m hm => ht m (by simp [PE.taken, hm])) (fun p hp => hs p hp)
      have h3 := asData_rel h f e1 (hlook i) (fun m hm => ht m (by simp [PE.taken, hm]))
      refine ⟨⟨as_wf h3, h1⟩, fun j s hm => ?_⟩
      rcases List.mem_cons.1 hm with e | hm
      . cases e; exact h3
      . exact h2 j s hm
    . cases hf
  | .own i n :: l, o, y, hf, ho, hn, ht, hs => by
    simp only [PE.fit] at hf
    split at hf
    . rename_i o' y' e2
      cases hf
      obtain ⟨h1, h2⟩ := PE_fit h f hlook e2 ho (fun n hm => hn n hm) (fun m hm => ht m hm) (fun p hp => hs p (by simp [PE.sig, hp]))
      refine ⟨h1, fun j s hm => ?_⟩
      rcases List.mem_cons.1 hm with e | hm
      . cases e
        obtain ⟨h3, h4⟩ := hs (n, look i) (by simp [PE.sig])
        have hl := hlook i
        refine ⟨h3, ?_⟩
        rw [f.rho]
        unfold handleOf
        unfold sameSrc at h4
        split at h4
        . rename_i m m' e3 e4
          simp only [beq_iff_eq] at h4
          rw [e3]
          dsimp only at e4
          rw [e4] at hl
          subst h4
          exact ⟨hl.2.1, hl.2.2⟩
        . rename_i c c' e3 e4
          simp only [Bool.and_eq_true] at h4
          rw [e3]
          dsimp only at e4
          rw [e4] at hl
          have hl : val i = c' := hl
          rw [hl, nilSlice_eq h4.2, nilSlice_eq h4.1]
          exact ⟨rfl, .inl ⟨_, _, _, rfl⟩⟩
        . cases h4
      . exact h2 j s hm
    . cases hf
  | .same i s0 :: l, o, y, hf, ho, hn, ht, hs => by
    simp only [PE.fit] at hf
    split at hf
    . rename_i p o' y' e1 e2
      cases hf
      obtain ⟨h1, h2⟩ := PE_fit h f hlook e2 (fun q hq => ho q (List.mem_append_right _ hq)) (fun n hm => hn n (by simp [PE.names, hm])) (fun m hm => ht m hm) (fun p hp => hs p hp)
      refine ⟨h1, fun j s hm => ?_⟩
      rcases List.mem_cons.1 hm with e | hm
      . cases e
        exact SV.rel.mv f.mv (fun n hm => hn n (by simp [PE.names, hm])) (sameSV_rel e1 (fun q hq => ho q (List.mem_append_left _ hq)) (hlook i))
      . exact h2 j s hm
    . cases hf
theorem mk_places : ∀ (pl : List PE) (y : PE.Tup pl), (PE.mk pl y).map (·.1) = PE.places pl
  | [], _ => rfl
  | .var i k :: l, y => by simp [PE.mk, PE.places, mk_places l y.2]
  | .own i n :: l, y => by simp [PE.mk, PE.places, mk_places l y]
  | .same i s :: l, y => by simp [PE.mk, PE.places, mk_places l y]
theorem mk_lookup {sl : Slots} {i : Nat} {s : SV} (h : sl.lookup i = some s) : (i, s) ∈ sl := by
  induction sl with
  | nil => cases h
  | cons p l ih =>
    obtain ⟨j, t⟩ := p
    rw [lookup_cons] at h
    split at h
    . rename_i e; cases h; subst e; exact List.mem_cons_self
    . exact List.mem_cons_of_mem _ (ih h)
def isPlain : Ob → Bool
  | .siter _ _ | .dfr | .miter _ _ _ => true
  | _ => false
theorem OE_get (sig : List (Nat × SV)) : ∀ {ol : List OE} {n : Nat} {o : List Prop} {z : OE.Tup ol}, OE.fit st sig n ol = some (o, z) → (∀ p ∈ o, p) → OE.varB sig n ol = true → ∀ j ob, (OE.mk ol z)[j]? = some (some ob) →
    (∃ e k xs, ob = .row e k xs ∧ ((∃ m, srcOf sig (n + j) = .own m ∧ st.hp[m]? = some (some (.row e k xs)) ∧ m ∈ OE.srcs sig n ol) ∨ (∃ c, srcOf sig (n + j) = .cst c ∧ nilSlice c = true ∧ xs = []))) ∨
    (∃ t p y cs q, ob = .var t ((PE.mk p y).map (·.2)) ∧ st.hp[n + j]? = some (some (.var t cs)) ∧ cs.length = p.length ∧ PE.fit st (cellLook st (n + j)) p = some (q, y) ∧ (∀ x ∈ q, x) ∧ srcOf sig (n + j) = .own (n + j) ∧
      n + j ∈ OE.srcs sig n ol ∧ PE.places p = List.range p.length ∧ (∀ m ∈ PE.names p, m ∈ OE.allNames ol) ∧ (∀ m ∈ PE.taken (cellLook st (n + j)) p, m ∈ OE.allTaken st n ol) ∧ (∀ x ∈ PE.sig (cellLook st (n + j)) p, x ∈ OE.sig st n ol)) ∨
    (isPlain ob = true ∧ st.hp[n + j]? = some (some ob) ∧ srcOf sig (n + j) = .own (n + j) ∧ n + j ∈ OE.srcs sig n ol)
  | [], n, o, z, hf, ho, hv, j, ob, hm => by cases hm
  | .dead :: l, n, o, z, hf, ho, hv, j, ob, hm => by
    simp only [OE.fit] at hf
    split at hf
    . rename_i o' z' e1
      cases hf
      cases j with
      | zero => cases hm
      | succ j =>
        have := OE_get sig e1 ho hv j ob hm
        rw [show n + 1 + j = n + (j + 1) by omega] at this
        exact this
    . cases hf
  | .row e k :: l, n, o, z, hf, ho, hv, j, ob, hm => by
    simp only [OE.fit] at hf
    split at hf
    . rename_i o' z' e1
      have lift : ∀ {z1 : OE.Tup l}, z1 = z' → o' = o → ∀ j, (OE.mk l z1)[j]? = some (some ob) → _ := fun {z1} hz1 ho' j hj => OE_get sig e1 (by rw [ho']; exact ho) hv j ob (by rw [← hz1]; exact hj)
      split at hf
      . rename_i m hsrc
        split at hf
        . rename_i e' k' xs' hob
          split at hf
          . rename_i hk
            subst hk
            split at hf
            . rename_i he
              subst he
              cases hf
              cases j with
              | zero =>
                cases hm
                exact .inl ⟨_, _, _, rfl, .inl ⟨m, hsrc, hob, by simp [OE.srcs, hsrc]⟩⟩
              | succ j =>
                have := lift rfl rfl j hm
                rw [show n + 1 + j = n + (j + 1) by omega] at this
                simp only [OE.srcs, hsrc, OE.sig, OE.allNames, OE.allTaken]
                rcases this with ⟨e, k, xs, h1, h2 | h2⟩ | h1 | ⟨h1, h2, h3, h4⟩
                . obtain ⟨m', h3, h4, h5⟩ := h2
                  exact .inl ⟨e, k, xs, h1, .inl ⟨m', h3, h4, List.mem_cons_of_mem _ h5⟩⟩
                . exact .inl ⟨e, k, xs, h1, .inr h2⟩
                . obtain ⟨t, p, y, cs, q, h2, h3, h4, h5, h6, h7, h8, h9⟩ := h1
                  exact .inr (.inl ⟨t, p, y, cs, q, h2, h3, h4, h5, h6, h7, List.mem_cons_of_mem _ h8, h9⟩)
                . exact .inr (.inr ⟨h1, h2, h3, List.mem_cons_of_mem _ h4⟩)
            . cases hf
          . cases hf
        . cases hf
      . rename_i c hsrc
        split at hf
        . rename_i hn
          cases hf
          cases j with
          | zero =>
            cases hm
            exact .inl ⟨_, _, _, rfl, .inr ⟨c, hsrc, hn, rfl⟩⟩
          | succ j =>
            have := lift rfl rfl j hm
            rw [show n + 1 + j = n + (j + 1) by omega] at this
            simp only [OE.srcs, hsrc, OE.sig, OE.allNames, OE.allTaken]
            exact this
        . cases hf
      . cases hf
    . cases hf
  | .rowSame e k xs :: l, n, o, z, hf, ho, hv, j, ob, hm => by
    simp only [OE.fit] at hf
    split at hf
    . rename_i o' z' e1
      split at hf
      . rename_i m hsrc
        split at hf
        . rename_i e' k' xs' hob
          split at hf
          . rename_i hk
            subst hk
            split at hf
            . rename_i he
              subst he
              cases hf
              have hxs : xs' = xs := ho _ (by simp [castL])
              cases j with
              | zero =>
                cases hm
                exact .inl ⟨_, _, _, rfl, .inl ⟨m, hsrc, by rw [← hxs]; exact hob, by simp [OE.srcs, hsrc]⟩⟩
              | succ j =>
                have := OE_get sig e1 (fun p hp => ho p (by simp [hp])) hv j ob hm
                rw [show n + 1 + j = n + (j + 1) by omega] at this
                simp only [OE.srcs, hsrc, OE.sig, OE.allNames, OE.allTaken]
                rcases this with ⟨e, k, xs, h1, h2 | h2⟩ | h1 | ⟨h1, h2, h3, h4⟩
                . obtain ⟨m', h3, h4, h5⟩ := h2
                  exact .inl ⟨e, k, xs, h1, .inl ⟨m', h3, h4, List.mem_cons_of_mem _ h5⟩⟩
                . exact .inl ⟨e, k, xs, h1, .inr h2⟩
                . obtain ⟨t, p, y, cs, q, h2, h3, h4, h5, h6, h7, h8, h9⟩ := h1
                  exact .inr (.inl ⟨t, p, y, cs, q, h2, h3, h4, h5, h6, h7, List.mem_cons_of_mem _ h8, h9⟩)
                . exact .inr (.inr ⟨h1, h2, h3, List.mem_cons_of_mem _ h4⟩)
            . cases hf
          . cases hf
        . cases hf
      . cases hf
    . cases hf
  | .var t p :: l, n, o, z, hf, ho, hv, j, ob, hm => by
    simp only [OE.fit] at hf
    split at hf
    . rename_i o' z' t' cs e1 hob
      split at hf
      . rename_i hc
        obtain ⟨rfl, hlen⟩ := hc
        split at hf
        . rename_i q y e2
          cases hf
          simp only [OE.varB, Bool.and_eq_true, beq_iff_eq] at hv
          obtain ⟨⟨hv1, hv2⟩, hv3⟩ := hv
          have hsrc : srcOf sig n = .own n := by
            unfold srcOf
            split at hv1
            . rename_i hnone; rw [hnone]
            . cases hv1
          cases j with
          | zero =>
            cases hm
            exact .inr (.inl ⟨_, p, y, cs, q, rfl, hob, hlen, e2, fun x hx => ho x (List.mem_append_left _ hx), hsrc, by simp [OE.srcs], hv2, fun m hm => by simp [OE.allNames, hm], fun m hm => by simp only [OE.allTaken]; exact List.mem_append_left _ hm, fun x hx => by simp only [OE.sig]; exact List.mem_append_left _ hx⟩)
          | succ j =>
            have := OE_get sig e1 (fun p hp => ho p (List.mem_append_right _ hp)) hv3 j ob hm
            rw [show n + 1 + j = n + (j + 1) by omega] at this
            rcases this with ⟨e, k, xs, h1, h2 | h2⟩ | h1 | ⟨h1, h2, h3, h4⟩
            . obtain ⟨m', h3, h4, h5⟩ := h2
              exact .inl ⟨e, k, xs, h1, .inl ⟨m', h3, h4, by simp only [OE.srcs]; exact List.mem_cons_of_mem _ h5⟩⟩
            . exact .inl ⟨e, k, xs, h1, .inr h2⟩
            . obtain ⟨t, p, y, cs, q, h2, h3, h4, h5, h6, h7, h8, h9, h10, h11, h12⟩ := h1
              exact .inr (.inl ⟨t, p, y, cs, q, h2, h3, h4, h5, h6, h7, by simp only [OE.srcs]; exact List.mem_cons_of_mem _ h8, h9, fun m hm => by simp only [OE.allNames]; exact List.mem_append_right _ (h10 m hm),
                fun m hm => by simp only [OE.allTaken]; exact List.mem_append_right _ (h11 m hm), fun x hx => by simp only [OE.sig]; exact List.mem_append_right _ (h12 x hx)⟩)
            . exact .inr (.inr ⟨h1, h2, h3, by simp only [OE.srcs]; exact List.mem_cons_of_mem _ h4⟩)
        . cases hf
      . cases hf
    . cases hf
  | .iter t :: l, n, o, z, hf, ho, hv, j, ob, hm => by
    simp only [OE.fit] at hf
    split at hf
    . rename_i o' z' t' pos e1 hob
      cases hf
      simp only [OE.varB, Bool.and_eq_true] at hv
      obtain ⟨hv1, hv3⟩ := hv
      have hsrc : srcOf sig n = .own n := by
        unfold srcOf
        split at hv1
        . rename_i hnone; rw [hnone]
        . cases hv1
      cases j with
      | zero =>
        cases hm
        have : t' = t := ho _ (by simp)
        rw [this] at hob
        exact .inr (.inr ⟨rfl, hob, hsrc, by simp [OE.srcs]⟩)
      | succ j =>
        have := OE_get sig e1 (fun p hp => ho p (by simp [hp])) hv3 j ob hm
        rw [show n + 1 + j = n + (j + 1) by omega] at this
        simp only [OE.srcs, OE.sig, OE.allNames, OE.allTaken]
        rcases this with ⟨e, k, xs, h1, h2 | h2⟩ | h1 | ⟨h1, h2, h3, h4⟩
        . obtain ⟨m', h3, h4, h5⟩ := h2
          exact .inl ⟨e, k, xs, h1, .inl ⟨m', h3, h4, List.mem_cons_of_mem _ h5⟩⟩
        . exact .inl ⟨e, k, xs, h1, .inr h2⟩
        . obtain ⟨t, p, y, cs, q, h2, h3, h4, h5, h6, h7, h8, h9⟩ := h1
          exact .inr (.inl ⟨t, p, y, cs, q, h2, h3, h4, h5, h6, h7, List.mem_cons_of_mem _ h8, h9⟩)
        . exact .inr (.inr ⟨h1, h2, h3, List.mem_cons_of_mem _ h4⟩)
    . cases hf
  | .iterSame t ps :: l, n, o, z, hf, ho, hv, j, ob, hm => by
    simp only [OE.fit] at hf
    split at hf
    . rename_i o' z' t' pos e1 hob
      cases hf
      simp only [OE.varB, Bool.and_eq_true] at hv
      obtain ⟨hv1, hv3⟩ := hv
      have hsrc : srcOf sig n = .own n := by
        unfold srcOf
        split at hv1
        . rename_i hnone; rw [hnone]
        . cases hv1
      cases j with
      | zero =>
        cases hm
        have h1 : t' = t := ho _ (by simp)
        have h2 : pos = ps := ho _ (by simp)
        rw [h1, h2] at hob
        exact .inr (.inr ⟨rfl, hob, hsrc, by simp [OE.srcs]⟩)
      | succ j =>
        have := OE_get sig e1 (fun p hp => ho p (by simp [hp])) hv3 j ob hm
        rw [show n + 1 + j = n + (j + 1) by omega] at this
        simp only [OE.srcs, OE.sig, OE.allNames, OE.allTaken]
        rcases this with ⟨e, k, xs, h1, h2 | h2⟩ | h1 | ⟨h1, h2, h3, h4⟩
        . obtain ⟨m', h3, h4, h5⟩ := h2
          exact .inl ⟨e, k, xs, h1, .inl ⟨m', h3, h4, List.mem_cons_of_mem _ h5⟩⟩
        . exact .inl ⟨e, k, xs, h1, .inr h2⟩
        . obtain ⟨t, p, y, cs, q, h2, h3, h4, h5, h6, h7, h8, h9⟩ := h1
          exact .inr (.inl ⟨t, p, y, cs, q, h2, h3, h4, h5, h6, h7, List.mem_cons_of_mem _ h8, h9⟩)
        . exact .inr (.inr ⟨h1, h2, h3, List.mem_cons_of_mem _ h4⟩)
    . cases hf
  | .miter k xs :: l, n, o, z, hf, ho, hv, j, ob, hm => by
    simp only [OE.fit] at hf
    split at hf
    . rename_i o' z' k' xs' seen e1 hob
      split at hf
      case isFalse => cases hf
      rename_i hk
      subst hk
      cases hf
      simp only [OE.varB, Bool.and_eq_true] at hv
      obtain ⟨hv1, hv3⟩ := hv
      have hsrc : srcOf sig n = .own n := by
        unfold srcOf
        split at hv1
        . rename_i hnone; rw [hnone]
        . cases hv1
      cases j with
      | zero =>
        cases hm
        have : xs' = xs := ho _ List.mem_cons_self
        rw [this] at hob
        exact .inr (.inr ⟨rfl, hob, hsrc, by simp [OE.srcs]⟩)
      | succ j =>
        have := OE_get sig e1 (fun p hp => ho p (List.mem_cons_of_mem _ hp)) hv3 j ob hm
        rw [show n + 1 + j = n + (j + 1) by omega] at this
        simp only [OE.srcs, OE.sig, OE.allNames, OE.allTaken]
        rcases this with ⟨e, k, xs, h1, h2 | h2⟩ | h1 | ⟨h1, h2, h3, h4⟩
        . obtain ⟨m', h3, h4, h5⟩ := h2
          exact .inl ⟨e, k, xs, h1, .inl ⟨m', h3, h4, List.mem_cons_of_mem _ h5⟩⟩
        . exact .inl ⟨e, k, xs, h1, .inr h2⟩
        . obtain ⟨t, p, y, cs, q, h2, h3, h4, h5, h6, h7, h8, h9⟩ := h1
          exact .inr (.inl ⟨t, p, y, cs, q, h2, h3, h4, h5, h6, h7, List.mem_cons_of_mem _ h8, h9⟩)
        . exact .inr (.inr ⟨h1, h2, h3, List.mem_cons_of_mem _ h4⟩)
    . cases hf
  | .dfr :: l, n, o, z, hf, ho, hv, j, ob, hm => by
    simp only [OE.fit] at hf
    split at hf
    . rename_i o' z' e1 hob
      cases hf
      simp only [OE.varB, Bool.and_eq_true] at hv
      obtain ⟨hv1, hv3⟩ := hv
      have hsrc : srcOf sig n = .own n := by
        unfold srcOf
        split at hv1
        . rename_i hnone; rw [hnone]
        . cases hv1
      cases j with
      | zero =>
        cases hm
        exact .inr (.inr ⟨rfl, hob, hsrc, by simp [OE.srcs]⟩)
      | succ j =>
        have := OE_get sig e1 (fun p hp => ho p (by simp [hp])) hv3 j ob hm
        rw [show n + 1 + j = n + (j + 1) by omega] at this
        simp only [OE.srcs, OE.sig, OE.allNames, OE.allTaken]
        rcases this with ⟨e, k, xs, h1, h2 | h2⟩ | h1 | ⟨h1, h2, h3, h4⟩
        . obtain ⟨m', h3, h4, h5⟩ := h2
          exact .inl ⟨e, k, xs, h1, .inl ⟨m', h3, h4, List.mem_cons_of_mem _ h5⟩⟩
        . exact .inl ⟨e, k, xs, h1, .inr h2⟩
        . obtain ⟨t, p, y, cs, q, h2, h3, h4, h5, h6, h7, h8, h9⟩ := h1
          exact .inr (.inl ⟨t, p, y, cs, q, h2, h3, h4, h5, h6, h7, List.mem_cons_of_mem _ h8, h9⟩)
        . exact .inr (.inr ⟨h1, h2, h3, List.mem_cons_of_mem _ h4⟩)
    . cases hf
theorem srcs_mem (sig : List (Nat × SV)) : ∀ (ol : List OE) (n j : Nat) (m : Nat), (∃ oe, ol[j]? = some oe ∧ (match oe with | .dead => False | .var _ _ => m = n + j | .iter _ => m = n + j | .iterSame _ _ => m = n + j | .miter _ _ => m = n + j | .dfr => m = n + j | _ => srcOf sig (n + j) = .own m)) → m ∈ OE.srcs sig n ol
  | [], n, j, m, h => by obtain ⟨oe, h, _⟩ := h; cases h
  | oe :: l, n, 0, m, h => by
    obtain ⟨oe', h1, h2⟩ := h
    cases h1
    cases oe <;> simp only [Nat.add_zero] at h2
    all_goals simp [OE.srcs, h2]
  | oe :: l, n, j + 1, m, h => by
    have : m ∈ OE.srcs sig (n + 1) l := srcs_mem sig l (n + 1) j m (by rw [show n + 1 + j = n + (j + 1) by omega]; exact h)
    cases oe <;> simp only [OE.srcs]
    . exact this
    . split
      . exact List.mem_cons_of_mem _ this
      . exact this
    . split
      . exact List.mem_cons_of_mem _ this
      . exact this
    . exact List.mem_cons_of_mem _ this
    . exact List.mem_cons_of_mem _ this
    . exact List.mem_cons_of_mem _ this
    . exact List.mem_cons_of_mem _ this
    . exact List.mem_cons_of_mem _ this
def srcAt (sig : List (Nat × SV)) (n : Nat) (oe : OE) (m : Nat) : Prop := match oe with | .dead => False | .var _ _ => m = n | .iter _ => m = n | .iterSame _ _ => m = n | .miter _ _ => m = n | .dfr => m = n | _ => srcOf sig n = .own m
theorem srcs_inj (sig : List (Nat × SV)) : ∀ (ol : List OE) (n i j m : Nat) (a b : OE), nodupB (OE.srcs sig n ol) = true → ol[i]? = some a → ol[j]? = some b → srcAt sig (n + i) a m → srcAt sig (n + j) b m → i = j
  | [], _, _, _, _, _, _, _, h, _, _, _ => by cases h
  | oe :: l, n, i, j, m, a, b, hd, ha, hb, sa, sb => by
    have tail : nodupB (OE.srcs sig (n + 1) l) = true ∧ ∀ m, srcAt sig n oe m → m ∉ OE.srcs sig (n + 1) l := by
      cases oe <;> simp only [OE.srcs] at hd
      . exact ⟨hd, fun m h => h.elim⟩
      . split at hd
        . rename_i m' hm'
          simp only [nodupB, Bool.and_eq_true, Bool.not_eq_true', List.contains_eq_mem, decide_eq_false_iff_not] at hd
          exact ⟨hd.2, fun m h => by
            have h : srcOf sig n = .own m := h
            rw [hm'] at h; cases h; exact hd.1⟩
        . rename_i hno
          exact ⟨hd, fun m h => absurd h (hno m)⟩
      . split at hd
        . rename_i m' hm'
          simp only [nodupB, Bool.and_eq_true, Bool.not_eq_true', List.contains_eq_mem, decide_eq_false_iff_not] at hd
          exact ⟨hd.2, fun m h => by
            have h : srcOf sig n = .own m := h
            rw [hm'] at h; cases h; exact hd.1⟩
        . rename_i hno
          exact ⟨hd, fun m h => absurd h (hno m)⟩
      all_goals
        simp only [nodupB, Bool.and_eq_true, Bool.not_eq_true', List.contains_eq_mem, decide_eq_false_iff_not] at hd
        exact ⟨hd.2, fun m h => by
          have h : m = n := h
          rw [h]; exact hd.1⟩
    have mem : ∀ (j : Nat) (b : OE), l[j]? = some b → srcAt sig (n + (j + 1)) b m → m ∈ OE.srcs sig (n + 1) l := by
      intro j b hb sb
      refine srcs_mem sig l (n + 1) j m ⟨b, hb, ?_⟩
      rw [show n + 1 + j = n + (j + 1) by omega]
      unfold srcAt at sb
      cases b <;> exact sb
    cases i with
    | zero =>
      cases j with
      | zero => rfl
      | succ j =>
        cases ha
        exact absurd (mem j b hb sb) (tail.2 m sa)
    | succ i =>
      cases j with
      | zero =>
        cases hb
        exact absurd (mem i a ha sa) (tail.2 m sb)
      | succ j =>
        have := srcs_inj sig l (n + 1) i j m a b tail.1 ha hb (by rw [show n + 1 + i = n + (i + 1) by omega]; exact sa) (by rw [show n + 1 + j = n + (j + 1) by omega]; exact sb)
        omega
theorem OE_mk_get : ∀ (ol : List OE) (z : OE.Tup ol), (OE.mk ol z).length = ol.length
  | [], _ => rfl
  | .dead :: l, z => by simp [OE.mk, OE_mk_get l z]
  | .row _ _ :: l, z => by simp [OE.mk, OE_mk_get l z.2]
  | .rowSame _ _ _ :: l, z => by simp [OE.mk, OE_mk_get l z]
  | .var _ _ :: l, z => by simp [OE.mk, OE_mk_get l z.2]
  | .iter _ :: l, z => by simp [OE.mk, OE_mk_get l z.2]
  | .iterSame _ _ :: l, z => by simp [OE.mk, OE_mk_get l z]
  | .miter _ _ :: l, z => by simp [OE.mk, OE_mk_get l z.2]
  | .dfr :: l, z => by simp [OE.mk, OE_mk_get l z]
theorem mk_shape : ∀ (ol : List OE) (z : OE.Tup ol) (j : Nat) (ob : Ob), (OE.mk ol z)[j]? = some (some ob) → ∃ oe, ol[j]? = some oe ∧ (match ob with | .row _ _ _ => (match oe with | .row _ _ | .rowSame _ _ _ => True | _ => False) | .var _ _ => (match oe with | .var _ _ => True | _ => False) | .siter _ _ => (match oe with | .iter _ | .iterSame _ _ => True | _ => False) | .dfr => (match oe with | .dfr => True | _ => False) | .miter _ _ _ => (match oe with | .miter _ _ => True | _ => False) | .mapo _ _ => False)
  | [], _, _, _, h => by cases h
  | .dead :: l, z, 0, ob, h => by cases h
  | .row _ _ :: l, z, 0, ob, h => by cases h; exact ⟨_, rfl, trivial⟩
  | .rowSame _ _ _ :: l, z, 0, ob, h => by cases h; exact ⟨_, rfl, trivial⟩
  | .var _ _ :: l, z, 0, ob, h => by cases h; exact ⟨_, rfl, trivial⟩
  | .iter _ :: l, z, 0, ob, h => by cases h; exact ⟨_, rfl, trivial⟩
  | .iterSame _ _ :: l, z, 0, ob, h => by cases h; exact ⟨_, rfl, trivial⟩
  | .miter _ _ :: l, z, 0, ob, h => by cases h; exact ⟨_, rfl, trivial⟩
  | .dfr :: l, z, 0, ob, h => by cases h; exact ⟨_, rfl, trivial⟩
  | .dead :: l, z, j + 1, ob, h => mk_shape l z j ob h
  | .row _ _ :: l, z, j + 1, ob, h => mk_shape l z.2 j ob h
  | .rowSame _ _ _ :: l, z, j + 1, ob, h => mk_shape l z j ob h
  | .var _ _ :: l, z, j + 1, ob, h => mk_shape l z.2 j ob h
  | .iter _ :: l, z, j + 1, ob, h => mk_shape l z.2 j ob h
  | .iterSame _ _ :: l, z, j + 1, ob, h => mk_shape l z j ob h
  | .miter _ _ :: l, z, j + 1, ob, h => mk_shape l z.2 j ob h
  | .dfr :: l, z, j + 1, ob, h => mk_shape l z j ob h
theorem row_wf {C : Cx} {e : Nat} {k : Kd} {xs : List k.T} {v : Value} (h : (Ob.row e k xs).rel C v) : Kd.wf (.sl k) xs := by
  obtain ⟨A, c, _, h1, h2, h3, h4⟩ := row_rel h
  refine ⟨by omega, fun x hx => ?_⟩
  cases A with
  | none => have := (h3 rfl).2; subst this; cases hx
  | some ad =>
    obtain ⟨_, _, _, h5, _⟩ := h4 ad rfl
    obtain ⟨i, hi⟩ := List.mem_iff_getElem?.1 hx
    obtain ⟨ecs, hr, _⟩ := h5 i x hi
    exact hr.wf
theorem OE_wf (sig : List (Nat × SV)) : ∀ {ol : List OE} {n : Nat} {o : List Prop} {z : OE.Tup ol}, OE.fit st sig n ol = some (o, z) → (∀ p ∈ o, p) →
    (∀ (j : Nat) (e : Nat) (k : Kd) (xs : List k.T), (OE.mk ol z)[j]? = some (some (.row e k xs)) → Kd.wf (.sl k) xs) →
    (∀ N p q y, PE.fit st (cellLook st N) p = some (q, y) → (∀ x ∈ q, x) → (∀ m ∈ PE.names p, m ∈ OE.allNames ol) → (∀ m ∈ PE.taken (cellLook st N) p, m ∈ OE.allTaken st n ol) → (∀ x ∈ PE.sig (cellLook st N) p, x ∈ OE.sig st n ol) →
      (∃ t cs, st.hp[N]? = some (some (.var t cs))) → PE.wf p y) → OE.wf ol z
  | [], _, _, _, _, _, _, _ => trivial
  | .dead :: l, n, o, z, hf, ho, hr, hv => by
    simp only [OE.fit] at hf
    split at hf
    . rename_i o' z' e1
      cases hf
      exact OE_wf sig (ol := l) e1 ho (fun j e k xs hj => hr (j + 1) e k xs hj) (fun N p q y h1 h2 h3 h4 h5 => hv N p q y h1 h2 (fun m hm => h3 m hm) (fun m hm => h4 m hm) (fun m hm => h5 m hm))
    . cases hf
  | .row e k :: l, n, o, z, hf, ho, hr, hv => by
    simp only [OE.fit] at hf
    split at hf
    . rename_i o' z' e1
      have fin : ∀ (xs : List k.T), o' = o → z = (xs, z') → OE.wf (.row e k :: l) z := by
        intro xs ho' hz
        subst hz
        exact ⟨hr 0 e k xs rfl, OE_wf sig (ol := l) e1 (by rw [ho']; exact ho) (fun j e k xs hj => hr (j + 1) e k xs hj) (fun N p q y h1 h2 h3 h4 h5 => hv N p q y h1 h2 (fun m hm => h3 m hm) (fun m hm => h4 m hm) (fun m hm => h5 m hm))⟩
      split at hf
      . split at hf
        . split at hf
          . split at hf
            . rename_i hk _
              subst hk
              cases hf
              exact fin _ rfl rfl
            . cases hf
          . cases hf
        . cases hf
      . split at hf
        . cases hf; exact fin _ rfl rfl
        . cases hf
      . cases hf
    . cases hf
  | .rowSame e k xs :: l, n, o, z, hf, ho, hr, hv => by
    simp only [OE.fit] at hf
    split at hf
    . rename_i o' z' e1
      have fin : (∀ p ∈ o', p) → z = z' → OE.wf (.rowSame e k xs :: l) z := by
        intro ho' hz
        subst hz
        exact OE_wf sig (ol := l) e1 ho' (fun j e k xs hj => hr (j + 1) e k xs hj) (fun N p q y h1 h2 h3 h4 h5 => hv N p q y h1 h2 (fun m hm => h3 m hm) (fun m hm => h4 m hm) (fun m hm => h5 m hm))
      split at hf
      . split at hf
        . split at hf
          . split at hf
            . rename_i hk _
              subst hk
              cases hf
              exact fin (fun p hp => ho p (List.mem_cons_of_mem _ hp)) rfl
            . cases hf
          . cases hf
        . cases hf
      . cases hf
    . cases hf
  | .var t p :: l, n, o, z, hf, ho, hr, hv => by
    simp only [OE.fit] at hf
    split at hf
    . rename_i o' z' t' cs e1 hob
      split at hf
      . split at hf
        . rename_i q y e2
          cases hf
          refine ⟨hv n p q y e2 (fun x hx => ho x (List.mem_append_left _ hx)) (fun m hm => by simp [OE.allNames, hm]) (fun m hm => by simp only [OE.allTaken]; exact List.mem_append_left _ hm) (fun x hx => by simp only [OE.sig]; exact List.mem_append_left _ hx) ⟨_, _, hob⟩, ?_⟩
          exact OE_wf sig (ol := l) e1 (fun p hp => ho p (List.mem_append_right _ hp)) (fun j e k xs hj => hr (j + 1) e k xs hj) (fun N p q y h1 h2 h3 h4 h5 => hv N p q y h1 h2 (fun m hm => by simp only [OE.allNames]; exact List.mem_append_right _ (h3 m hm))
            (fun m hm => by simp only [OE.allTaken]; exact List.mem_append_right _ (h4 m hm)) (fun x hx => by simp only [OE.sig]; exact List.mem_append_right _ (h5 x hx)))
        . cases hf
      . cases hf
    . cases hf

  | .iter t :: l, n, o, z, hf, ho, hr, hv => by
    simp only [OE.fit] at hf
    split at hf
    . rename_i o' z' t' pos e1 hob
      cases hf
      exact OE_wf sig (ol := l) e1 (fun p hp => ho p (by simp [hp])) (fun j e k xs hj => hr (j + 1) e k xs hj) (fun N p q y h1 h2 h3 h4 h5 => hv N p q y h1 h2 (fun m hm => h3 m hm) (fun m hm => h4 m hm) (fun m hm => h5 m hm))
    . cases hf
  | .iterSame t ps :: l, n, o, z, hf, ho, hr, hv => by
    simp only [OE.fit] at hf
    split at hf
    . rename_i o' z' t' pos e1 hob
      cases hf
      exact OE_wf sig (ol := l) e1 (fun p hp => ho p (by simp [hp])) (fun j e k xs hj => hr (j + 1) e k xs hj) (fun N p q y h1 h2 h3 h4 h5 => hv N p q y h1 h2 (fun m hm => h3 m hm) (fun m hm => h4 m hm) (fun m hm => h5 m hm))
    . cases hf
  | .miter k xs :: l, n, o, z, hf, ho, hr, hv => by
    simp only [OE.fit] at hf
    split at hf
    . rename_i o' z' k' xs' seen e1 hob
      split at hf
      case isFalse => cases hf
      cases hf
      exact OE_wf sig (ol := l) e1 (fun p hp => ho p (List.mem_cons_of_mem _ hp)) (fun j e k xs hj => hr (j + 1) e k xs hj) (fun N p q y h1 h2 h3 h4 h5 => hv N p q y h1 h2 (fun m hm => h3 m hm) (fun m hm => h4 m hm) (fun m hm => h5 m hm))
    . cases hf
  | .dfr :: l, n, o, z, hf, ho, hr, hv => by
    simp only [OE.fit] at hf
    split at hf
    . rename_i o' z' e1 hob
      cases hf
      exact OE_wf sig (ol := l) e1 (fun p hp => ho p (by simp [hp])) (fun j e k xs hj => hr (j + 1) e k xs hj) (fun N p q y h1 h2 h3 h4 h5 => hv N p q y h1 h2 (fun m hm => h3 m hm) (fun m hm => h4 m hm) (fun m hm => h5 m hm))
    . cases hf
theorem df_fit {C C' : Cx} {ok : Nat → Prop} (hm : C.mv C' ok) : ∀ {l l' : List DE} {ds : List Deferred} {o : List Prop}, dfFit l l' = some o → (∀ p ∈ o, p) → (∀ n ∈ dfNames l, ok n) → DRel C l' ds → DRel C' l ds
  | [], l', ds, o, hf, _, _, hr => by
    cases l' with
    | nil => exact hr
    | cons s' l' => cases hf
  | .mark n :: l, l', ds, o, hf, ho, hn, hr => by
    cases l' with
    | nil => cases hf
    | cons s' l' =>
      cases s' <;> simp only [dfFit] at hf <;> try (cases hf; done)
      split at hf
      . rename_i e
        obtain ⟨h4, h5⟩ := hm.ok n (hn n (by simp [dfNames]))
        subst e
        obtain ⟨b, r, e, h1, h2, h3⟩ := hr
        exact ⟨b, r, e, h4, by rw [h5]; exact h2, df_fit hm hf ho (fun m hm' => hn m (by simp [dfNames, hm'])) h3⟩
      . cases hf
  | .fn f c :: l, l', ds, o, hf, ho, hn, hr => by
    cases l' with
    | nil => cases hf
    | cons s' l' =>
      cases s' <;> simp only [dfFit] at hf <;> try (cases hf; done)
      split at hf
      . rename_i e
        subst e
        split at hf
        . rename_i p q e1 e2
          cases hf
          obtain ⟨vs, r, e, h1, h2⟩ := hr
          exact ⟨vs, r, e, SV.rels.mv hm (fun m hm' => hn m (by simp [dfNames, hm'])) (sameSVs_rel e1 (fun x hx => ho x (List.mem_append_left _ hx)) h1), df_fit hm e2 (fun x hx => ho x (List.mem_append_right _ hx)) (fun m hm' => hn m (by simp [dfNames, hm'])) h2⟩
        . cases hf
      . cases hf
theorem stk_fit (h : StRel B ρ st a fs w) {C' : Cx} {ok : Nat → Prop} (hm : (cx B ρ st.hp w).mv C' ok) : ∀ {l l' : List (Slots × List DE)} {fs : List Act} {o : List Prop}, stkFit l l' = some o → (∀ p ∈ o, p) → (∀ n ∈ stkNames l, ok n) → StkRel (cx B ρ st.hp w) l' fs → StkRel C' l fs
  | [], l', fs, o, hf, _, _, hr => by
    cases l' with
    | nil => exact hr
    | cons s' l' => cases hf
  | s :: l, l', fs, o, hf, ho, hn, hr => by
    cases l' with
    | nil => cases hf
    | cons s' l' =>
      simp only [stkFit] at hf
      split at hf
      . rename_i p d q e1 ed e2
        cases hf
        obtain ⟨t, r, e, h1, hd1, h2⟩ := hr
        refine ⟨t, r, e, ⟨rfl, fun i sv hi => ?_⟩, df_fit hm ed (fun x hx => ho x (by simp [hx])) (fun n hn' => hn n (by simp only [stkNames, List.flatMap_cons]; simp [hn'])) hd1, stk_fit h hm e2 (fun x hx => ho x (by simp [hx])) (fun n hn' => hn n (by simp only [stkNames, List.flatMap_cons] at hn' ⊢; exact List.mem_append_right _ hn')) h2⟩
        have key : ∀ {s : Slots} {p : List Prop}, slFit s s'.1 = some p → (∀ x ∈ p, x) → (∀ n ∈ slNames s, ok n) → s.lookup i = some sv → i < t.tmps.size ∧ sv.rel C' (t.tmps.getD i undef) := by
          intro s
          induction s with
          | nil => intro p _ _ _ hl; cases hl
          | cons pr s ih =>
            obtain ⟨j, u⟩ := pr
            intro p hf ho hn hl
            simp only [slFit] at hf
            split at hf
            . rename_i s'' e3
              split at hf
              . rename_i p1 q1 e4 e5
                cases hf
                rw [lookup_cons] at hl
                split at hl
                . rename_i hij
                  cases hl
                  subst hij
                  obtain ⟨h3, h4⟩ := h1.2 i s'' e3
                  exact ⟨h3, SV.rel.mv hm (fun n hnn => hn n (by simp [slNames, SV.namesL, hnn])) (sameSV_rel e4 (fun x hx => ho x (List.mem_append_left _ hx)) h4)⟩
                . exact ih e5 (fun x hx => ho x (List.mem_append_right _ hx)) (fun n hnn => hn n (by simp only [slNames, List.map_cons, SV.namesL] at hnn ⊢; exact List.mem_append_right _ hnn)) hl
              . cases hf
            . cases hf
        exact key e1 (fun x hx => ho x (List.mem_append_left _ hx)) (fun n hnn => hn n (by simp only [stkNames, List.flatMap_cons]; simp [hnn])) hi
      . cases hf
theorem fitK_sound (h : StRel B ρ st a fs w) {pl : List PE} {ol : List OE} {stk0 : List (Slots × List DE)} {df0 : List DE} {ls0 : LS} {K : PE.Tup pl → OE.Tup ol → Prop} (hk : st.fitK pl ol stk0 df0 ls0 K) :
    ∃ ρ' y z, K y z ∧ PE.wf pl y ∧ OE.wf ol z ∧ StRel B ρ' (headSt st pl ol stk0 df0 ls0 y z) a fs w := by
  unfold St.fitK at hk
  split at hk
  . rename_i hb
    split at hk
    . rename_i o y o' z o'' dd e1 e2 e3 e4
      obtain ⟨ho, hk⟩ := conj_all hk
      obtain ⟨ho', hk⟩ := conj_all hk
      obtain ⟨ho'', hk⟩ := conj_all hk
      obtain ⟨hod, hk⟩ := conj_all hk
      unfold St.fitB at hb
      simp only [Bool.and_eq_true, List.all_eq_true, decide_eq_true_eq, Bool.not_eq_true', List.contains_eq_mem, decide_eq_false_iff_not, List.mem_append] at hb
      obtain ⟨⟨⟨⟨⟨⟨b1, b2⟩, b3⟩, b4⟩, b5⟩, b6⟩, b7⟩ := hb
      generalize hsig : PE.sig st.look pl ++ OE.sig st 0 ol = sig at *
      have hsigm : ∀ x, x ∈ PE.sig st.look pl ∨ x ∈ OE.sig st 0 ol → x ∈ sig := fun x hx => by rw [← hsig]; exact List.mem_append.2 hx
      have hlen := OE_mk_get ol z
      let ρ' : Nat → Value := handleOf ρ sig
      have get := OE_get (st := st) sig e2 ho' b2
      simp only [Nat.zero_add] at get
      -- where a live object's block comes from
      have srcBlk : ∀ n, live (OE.mk ol z) n → ∀ b, blk (ρ' n) = some b → ∃ m, m ∈ OE.srcs sig 0 ol ∧ live st.hp m ∧ blk (ρ m) = some b ∧ ∀ oe, ol[n]? = some oe → srcAt sig n oe m := by
        rintro n ⟨ob, hob⟩ b hbk
        obtain ⟨oe, hoe, hsh⟩ := mk_shape ol z n ob hob
        rcases get n ob hob with ⟨e, k, xs, rfl, ⟨m, h1, h2, h3⟩ | ⟨c, h1, h2, rfl⟩⟩ | ⟨t, p, y', cs, q, rfl, h2, h3, h4, h5, h6, h7, h8⟩ | ⟨hp, h2, h6, h7⟩
        . refine ⟨m, h3, ⟨_, h2⟩, ?_, fun oe' hoe' => ?_⟩
          . have : ρ' n = ρ m := by show handleOf ρ sig n = _; unfold handleOf; rw [h1]
            rw [← this]; exact hbk
          . rw [hoe] at hoe'; cases hoe'
            cases oe <;> simp only at hsh <;> first | exact h1 | exact hsh.elim
        . have : ρ' n = c := by show handleOf ρ sig n = _; unfold handleOf; rw [h1]
          rw [this, nilSlice_eq h2] at hbk
          cases hbk
        . refine ⟨n, h7, ⟨_, h2⟩, ?_, fun oe' hoe' => ?_⟩
          . have : ρ' n = ρ n := by show handleOf ρ sig n = _; unfold handleOf; rw [h6]
            rw [← this]; exact hbk
          . rw [hoe] at hoe'; cases hoe'
            cases oe <;> simp only at hsh <;> first | rfl | exact hsh.elim
        . refine ⟨n, h7, ⟨_, h2⟩, ?_, fun oe' hoe' => ?_⟩
          . have : ρ' n = ρ n := by show handleOf ρ sig n = _; unfold handleOf; rw [h6]
            rw [← this]; exact hbk
          . rw [hoe] at hoe'; cases hoe'
            cases ob <;> simp only [isPlain, Bool.false_eq_true] at hp <;> cases oe <;> simp only at hsh <;> first | rfl | exact hsh.elim
      have f : FitCx B ρ st w (cx B ρ' (OE.mk ol z) w) sig (OE.srcs sig 0 ol) := ⟨rfl, fun _ => rfl, fun b hF => by
        rcases hF with hF | ⟨n, hn, hbk⟩
        . exact .inl hF
        . obtain ⟨m, h1, h2, h3, _⟩ := srcBlk n hn b hbk
          exact .inr ⟨m, h1, h2, h3⟩, rfl⟩
      have hN : (cx B ρ' (OE.mk ol z) w).N = ol.length := hlen
      have mv := f.mv
      have okn : ∀ n, okSrc st sig ol.length n = true → okSrc st sig (cx B ρ' (OE.mk ol z) w).N n = true := fun n hn => by rw [hN]; exact hn
      have sigOk : ∀ p, p ∈ sig → p.1 < (cx B ρ' (OE.mk ol z) w).N ∧ sameSrc (srcOf sig p.1) p.2 = true := fun p hp => by rw [hN]; exact b3 p (by rw [← hsig] at hp; exact List.mem_append.1 hp)
      have slots : ∀ i, (st.look i).rel (cx B ρ st.hp w) (a.tmps.getD i undef) := fun i => by
        unfold St.look
        split
        . rename_i s hs; exact (h.s.2 i s hs).2
        . trivial
      obtain ⟨w1, w2⟩ := PE_fit h f slots e1 ho (fun n hn => okn n (b4 n (.inl (.inl hn)))) (fun m hm => b5 m (.inl hm)) (fun p hp => sigOk p (hsigm p (.inl hp)))
      -- cells of variables
      have cells : ∀ (n t : Nat) (cs : List SV) (vs : List Value), st.hp[n]? = some (some (.var t cs)) → SV.rels (cx B ρ st.hp w) cs vs → ∀ {p : List PE} {q : List Prop} {y' : PE.Tup p}, PE.fit st (cellLook st n) p = some (q, y') → (∀ x ∈ q, x) →
          (∀ m ∈ PE.names p, m ∈ OE.allNames ol) → (∀ m ∈ PE.taken (cellLook st n) p, m ∈ OE.allTaken st 0 ol) → (∀ x ∈ PE.sig (cellLook st n) p, x ∈ OE.sig st 0 ol) →
          PE.wf p y' ∧ ∀ i s, (i, s) ∈ PE.mk p y' → s.rel (cx B ρ' (OE.mk ol z) w) (vs.getD i undef) := by
        intro n t cs vs hob hvs p q y' hpf hq hnm htk hsg
        refine PE_fit h f (val := fun i => vs.getD i undef) (fun i => ?_) hpf hq (fun n hn => okn n (b4 n (.inl (.inr (hnm n hn))))) (fun m hm => b5 m (.inr (htk m hm))) (fun p hp => sigOk p (hsigm p (.inr (hsg p hp))))
        unfold cellLook
        rw [hob]
        simp only
        split
        . rename_i s hs
          obtain ⟨v, h1, h2⟩ := rels_get hvs hs
          rw [List.getD_eq_getElem?_getD, h1]; exact h2
        . trivial
      have objs : ∀ (n : Nat) (ob : Ob), (OE.mk ol z)[n]? = some (some ob) → ob.rel (cx B ρ' (OE.mk ol z) w) (ρ' n) := by
        intro n ob hob
        rcases get n ob hob with ⟨e, k, xs, rfl, ⟨m, h1, h2, h3⟩ | ⟨c, h1, h2, rfl⟩⟩ | ⟨t, p, y', cs, q, rfl, h2, h3, h4, h5, h6, h7, h8, h9, h10, h11⟩ | ⟨hp, h2, h6, h7⟩
        . have hr : ρ' n = ρ m := by show handleOf ρ sig n = _; unfold handleOf; rw [h1]
          rw [hr]
          obtain ⟨inner, h4, h5⟩ := h.h.obj m _ h2
          exact ⟨inner, h4, fun i x hx => (h5 i x hx).mono mv.F⟩
        . have hr : ρ' n = c := by show handleOf ρ sig n = _; unfold handleOf; rw [h1]
          rw [hr, nilSlice_eq h2]
          exact ⟨[], .inl (World.ownsRow_nil _ _ _ _), fun i x hx => by cases hx⟩
        . have hr : ρ' n = ρ n := by show handleOf ρ sig n = _; unfold handleOf; rw [h6]
          rw [hr]
          obtain ⟨b, vs, h12, h13, h14⟩ := h.h.obj n _ h2
          refine ⟨b, vs, h12, h13, ?_⟩
          obtain ⟨_, h15⟩ := cells n t cs vs h2 h14 h4 h5 h9 h10 h11
          have hvl := rels_length h14
          -- one by one
          have hpl := mk_places p y'
          rw [h8] at hpl
          have : ∀ (l : Slots) (k : Nat) (us : List Value), l.map (·.1) = List.range' k l.length → us.length = l.length → (∀ i, us[i]? = vs[k + i]?) → (∀ i s, (i, s) ∈ l → s.rel (cx B ρ' (OE.mk ol z) w) (vs.getD i undef)) → SV.rels (cx B ρ' (OE.mk ol z) w) (l.map (·.2)) us := by
            intro l
            induction l with
            | nil => intro k us _ hl _ _; exact List.eq_nil_of_length_eq_zero hl
            | cons pr l ih =>
              obtain ⟨i, s⟩ := pr
              intro k us hm hl hu hs
              cases us with
              | nil => simp at hl
              | cons u us =>
                simp only [List.map_cons, List.length_cons, List.range'_succ, List.cons.injEq] at hm
                obtain ⟨rfl, hm⟩ := hm
                have h0 : some u = vs[i]? := by simpa using hu 0
                refine ⟨u, us, rfl, ?_, ih (i + 1) us hm (by simpa using hl) (fun j => by
                  have := hu (j + 1)
                  simp only [List.getElem?_cons_succ] at this
                  rw [this]; congr 1; omega) (fun j t hj => hs j t (List.mem_cons_of_mem _ hj))⟩
                have := hs i s List.mem_cons_self
                rw [List.getD_eq_getElem?_getD, ← h0] at this
                exact this
          have hl2 : (PE.mk p y').length = p.length := by have := congrArg List.length hpl; simpa using this
          refine this _ 0 vs (by rw [hpl, hl2, List.range_eq_range']) (by rw [hvl, h3, hl2]) (fun i => by simp) h15
        . have hr : ρ' n = ρ n := by show handleOf ρ sig n = _; unfold handleOf; rw [h6]
          rw [hr]
          have := h.h.obj n _ h2
          cases ob with
          | row _ _ _ => cases hp
          | var _ _ => cases hp
          | siter _ _ => exact this
          | dfr => exact this
          | mapo _ _ => cases hp
          | miter k xs seen =>
            obtain ⟨b, r, es, clock, h12, ⟨h13, h14, h15⟩, h16, h17⟩ := this
            exact ⟨b, r, es, clock, h12, ⟨h13, fun hc => h14 (mv.F _ h13 hc), h15⟩, h16.imp fun x _ c hc => hc.mono mv.F, h17⟩
      refine ⟨ρ', y, z, hk, w1, ?_, ⟨⟨(LS.eqb_eq b7) ▸ h.h.kept, objs, fun n m b hn hm hnb hmb => ?_, fun n b hn hnb => ?_, (LS.eqb_eq b7) ▸ h.h.fb⟩, ⟨h.s.1, fun i s hs => ?_⟩, (fun t b hb => by cases hb), stk_fit h mv e3 ho'' (fun n hn => okn n (b4 n (.inr (.inr hn)))) h.k, df_fit mv e4 hod (fun n hn => okn n (b4 n (.inr (.inl hn)))) h.d, h.g⟩⟩
      . refine OE_wf sig e2 ho' (fun j e k xs hj => row_wf (objs j _ hj)) (fun N p q y' h1 h2 h3 h4 h5 h6 => ?_)
        obtain ⟨t, cs, hob⟩ := h6
        obtain ⟨b, vs, _, _, h14⟩ := h.h.obj N _ hob
        exact (cells N t cs vs hob h14 h1 h2 h3 h4 h5).1
      . obtain ⟨m1, _, h2, h3, h4⟩ := srcBlk n hn b hnb
        obtain ⟨m2, _, h5, h6, h7⟩ := srcBlk m hm b hmb
        have := h.h.sep m1 m2 b h2 h5 h3 h6
        subst this
        obtain ⟨ob1, ho1⟩ := hn
        obtain ⟨ob2, ho2⟩ := hm
        obtain ⟨oe1, hoe1, _⟩ := mk_shape ol z n ob1 ho1
        obtain ⟨oe2, hoe2, _⟩ := mk_shape ol z m ob2 ho2
        exact srcs_inj sig ol 0 n m m1 oe1 oe2 b1 hoe1 hoe2 (by simpa using h4 oe1 hoe1) (by simpa using h7 oe2 hoe2)
      . obtain ⟨m1, _, h2, h3, _⟩ := srcBlk n hn b hnb
        have := h.h.own m1 b h2 h3
        rw [LS.eqb_eq b7] at this
        exact this
      . have hm := mk_lookup hs
        refine ⟨b6 i ?_, w2 i s hm⟩
        rw [← mk_places pl y]
        exact List.mem_map.2 ⟨(i, s), hm, rfl⟩
    . exact hk.elim
  . exact hk.elim
end
end Go.Vc
end
