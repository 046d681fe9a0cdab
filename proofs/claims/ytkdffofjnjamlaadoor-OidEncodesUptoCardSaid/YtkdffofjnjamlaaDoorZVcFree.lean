/- Operations whose value hangs on no world. -/
import Derived.Test.YtkdffofjnjamlaaDoorZVcStep
set_option linter.unusedVariables false
set_option linter.unusedSimpArgs false
namespace Go.Vc
open Go.RowKit

/-- It yields the same in every world and leaves that alone, or it never yields. -/
def Free (P : Program) {α : Type} (m : Sem α) : Prop := (∃ v, ∀ w, m.run P w = .ok v w) ∨ ∀ w v w', m.run P w ≠ .ok v w'

section
variable {P : Program} {α β : Type}

theorem Free.pure (v : α) : Free P (Pure.pure v : Sem α) := .inl ⟨v, fun _ => rfl⟩
theorem Free.bind {m : Sem α} {f : α → Sem β} (hm : Free P m) (hf : ∀ v, Free P (f v)) : Free P (m >>= f) := by
  rcases hm with ⟨v, hv⟩ | hn
  · rcases hf v with ⟨u, hu⟩ | hn
    · exact .inl ⟨u, fun w => by rw [Sem.run_bind, hv w, Result.andThen_ok, hu w]⟩
    · exact .inr fun w u w' => by rw [Sem.run_bind, hv w, Result.andThen_ok]; exact hn w u w'
  · refine .inr fun w u w' => ?_
    rw [Sem.run_bind]
    cases h : m.run P w with
    | ok v w2 => exact absurd h (hn w v w2)
    | halt x w2 => intro hc; cases hc
theorem Free.stuck (s : String) : Free P (stuck s : Sem α) := .inr fun w v w' h => by cases h
theorem Free.unsupported (u : Unsupported) : Free P (unsupported u : Sem α) := .inr fun w v w' h => by cases h
theorem Free.program : Free P program := .inl ⟨P, fun _ => rfl⟩
theorem Free.underlying (t : TypeId) : Free P (underlying t) := by
  unfold Go.underlying
  refine Free.program.bind fun p => ?_
  split
  · exact .pure _
  · exact .stuck _
theorem Free.sizeOf (t : TypeId) : Free P (sizeOf t) := by
  unfold Go.sizeOf Go.typeInfo
  refine Free.bind (Free.program.bind fun p => ?_) fun i => .pure _
  split
  · exact .pure _
  · exact .stuck _
theorem Free.asIntOf (v : Value) : Free P (asIntOf v) := by
  unfold Go.asIntOf
  split
  · exact .pure _
  · exact .unsupported _
  · exact .stuck _
theorem Free.sureAddr (v : Value) : Free P (Instr.sureAddr v) := by
  unfold Instr.sureAddr
  split
  · exact .pure _
  · exact .stuck _
theorem never_bind {m : Sem α} {f : α → Sem β} (hf : ∀ v w u w', (f v).run P w ≠ .ok u w') : Free P (m >>= f) := .inr fun w u w' => by
  rw [Sem.run_bind]
  cases h : m.run P w with
  | ok v w2 => exact hf v w2 u w'
  | halt x w2 => intro hc; cases hc
theorem never_goPanic (v : Value) (w : World) (u : α) (w' : World) : (goPanic v : Sem α).run P w ≠ .ok u w' := by
  intro h
  cases h
theorem never_runtimePanic_bounds (x y : Int) (s : Bool) (c : BoundsCode) (w : World) (u : α) (w' : World) : (runtimePanic (.bounds x y s c) : Sem α).run P w ≠ .ok u w' := by
  unfold Go.runtimePanic
  rw [Sem.run_bind, run_program, Result.andThen_ok]
  exact never_goPanic _ _ _ _
theorem Free.boundsPanic (k : IntKind) (x y : Int) (c : BoundsCode) : Free P (boundsPanic k x y c : Sem α) := by
  unfold Go.boundsPanic
  dsimp only
  split
  · exact never_bind fun s w u w' => never_runtimePanic_bounds _ _ _ _ _ _ _
  · exact never_bind fun s w u w' => never_runtimePanic_bounds _ _ _ _ _ _ _

theorem Free.place (t : TypeId) (base : Option Addr) (len : Nat) (elem : TypeId) (k : IntKind) (i : Int) : Free P (do
    let tiny := len ≤ 1 && (match ← Go.underlying t with | .array .. => true | _ => false)
    match base with
    | some a =>
      if 0 ≤ i ∧ i < len then Pure.pure (Value.pointer (some (a.add (i.toNat * (← Go.sizeOf elem)))))
      else if tiny then Go.unsupported (.noEntry "op/indexAddr.an index out of range at an array of length 0 or 1 (ledger 616)")
      else Go.boundsPanic k i len .index
    | none => Go.boundsPanic k i 0 .index : Sem Value) := by
  refine (Free.underlying t).bind fun d => ?_
  dsimp only
  split
  · split
    · exact (Free.sizeOf _).bind fun s => .pure _
    · split <;> split
      · exact .unsupported _
      · exact .boundsPanic _ _ _ _
      · exact .unsupported _
      · exact .boundsPanic _ _ _ _
  · exact .boundsPanic _ _ _ _

theorem Free.indexAt (t : TypeId) (x i : Value) : Free P (Instr.indexAt t x i) := by
  unfold Instr.indexAt
  refine (Free.asIntOf i).bind fun ki => ?_
  obtain ⟨k, j⟩ := ki
  refine (Free.underlying t).bind fun d => ?_
  dsimp only
  split
  · refine Free.bind (Free.sureAddr _) fun a => Free.bind (.pure _) fun r => ?_
    obtain ⟨b, l, e⟩ := r
    exact Free.place t b l e k j
  · exact Free.place t _ _ _ k j
  · exact Free.bind (.stuck _) fun r => Free.place t _ _ _ k j
end

theorem Free.fieldAt {E : Ty} (hE : E.Ok) {t f ft off z : Nat} (e1 : fieldOf E t f = some (ft, off)) (hz : E.sz ft = some (z + 1)) (v : Value) : Free E.P (Instr.fieldAt t v f) := by
  obtain ⟨fields, h1, g, h2, h3, h4⟩ := field_of hE e1
  obtain ⟨inf, hi, hsz, _⟩ := hE.sz hz
  have run : ∀ w, (Instr.fieldAt t v f).run E.P w = (Instr.sureAddr v >>= fun a => Pure.pure (Value.pointer (some (a.add off)))).run E.P w := by
    intro w
    simp only [Instr.fieldAt, Sem.run_bind, run_underlying h1, Result.andThen_ok, h2]
    congr 1
    funext a w'
    simp only [Sem.run_bind, Sem.run_pure, fieldPlace, h3, run_sizeOf hi, hsz, h4, Result.andThen_ok]
    simp
  have fr : Free E.P (Instr.sureAddr v >>= fun a => Pure.pure (Value.pointer (some (a.add off)))) := (Free.sureAddr v).bind fun a => .pure _
  rcases fr with ⟨u, hu⟩ | hn
  · exact .inl ⟨u, fun w => by rw [run, hu w]⟩
  · exact .inr fun w u w' => by rw [run]; exact hn w u w'

/-- Operations that may be taken ahead of the others. -/
def pureOp (E : Ty) (o : Oper) : Bool :=
  match o.op with
  | .indexAddr .. => true
  | .fieldAddr t _ f => match fieldOf E t f with
    | some (ft, _) => match E.sz ft with
      | some (_ + 1) => true
      | _ => false
    | none => false
  | _ => false

theorem Free.value {P : Program} {m : Sem Value} (h : Free P m) : (∃ v, ∀ w, (do Pure.pure (Next.value (← m)) : Sem Next).run P w = .ok (.value v) w) ∨ ∀ w n w', (do Pure.pure (Next.value (← m)) : Sem Next).run P w ≠ .ok n w' := by
  rcases h with ⟨v, hv⟩ | hn
  · exact .inl ⟨v, fun w => by rw [Sem.run_bind, hv w, Result.andThen_ok]; rfl⟩
  · refine .inr fun w n w' => ?_
    rw [Sem.run_bind]
    cases h : m.run P w with
    | ok v w2 => exact absurd h (hn w v w2)
    | halt x w2 => intro hc; cases hc

theorem pureOp_free {E : Ty} (hE : E.Ok) {o : Oper} (h : pureOp E o = true) (ρ : Operand → Value) : (∃ v, ∀ w, (execOp ρ o).run E.P w = .ok (.value v) w) ∨ ∀ w n w', (execOp ρ o).run E.P w ≠ .ok n w' := by
  unfold pureOp at h
  split at h
  · rename_i t x i e
    unfold execOp
    rw [e]
    exact (Free.indexAt t _ _).value
  · rename_i t x f e
    unfold execOp
    rw [e]
    split at h
    · rename_i ft off e1
      split at h
      · rename_i z e2
        exact (Free.fieldAt hE e1 e2 _).value
      · cases h
    · cases h
  · cases h
end Go.Vc
