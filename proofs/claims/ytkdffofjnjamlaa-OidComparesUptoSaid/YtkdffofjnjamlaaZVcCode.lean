/- Regions and code. -/
import Derived.Test.YtkdffofjnjamlaaZVcStep
namespace Go.Vc
open Go.RowKit

inductive Ex where
  | normal | exit (id : Nat) | ret | pan (s : SV)

def St.setK (st : St) (d : Option Nat) (s : SV) (k : St → Prop) : Prop :=
  match d with
  | none => k st
  | some i => if i < st.n then k (st.set (some i) s) else False

def vcOps (E : Env) (ops : Array Oper) : List Oper → St → (St → Prop) → (SV → St → Prop) → Prop
  | [], st, kn, _ => kn st
  | o :: rest, st, kn, kp =>
    match o.guard with
    | none => vcOp E st o (fun s st' => st'.setK o.dst s fun st'' => vcOps E ops rest st'' kn kp) kp
    | some (j, want) => match (ops[j]?).bind (·.dst) with
      | none => False
      | some g => match st.kn.lookup g with
        | some b => if b = want then vcOp E st o (fun s st' => st'.setK o.dst s fun st'' => vcOps E ops rest st'' kn kp) kp
                    else st.setK o.dst .junk fun st'' => vcOps E ops rest st'' kn kp
        | none => match st.sl.lookup g with
          | some (.dat .bool b) => match st.op1 E.toTy o with
            | some (obs, s) => (b = want → conj obs True) ∧ st.setK o.dst (.gd (b == want) s) fun st'' => vcOps E ops rest st'' kn kp
            | none => (b = want → vcOp E (st.know g want) o (fun s st' => st'.setK o.dst s fun st'' => vcOps E ops rest st'' kn kp) kp) ∧
                (b = !want → (st.know g (!want)).setK o.dst .junk fun st'' => vcOps E ops rest st'' kn kp)
          | _ => False

/-- Operations that change nothing, whatever their order. -/
def vcStill (E : Env) : List Oper → St → (St → Prop) → Prop
  | [], st, k => k st
  | o :: rest, st, k => match o.guard, st.op1 E.toTy o with
    | none, some (obs, s) => conj obs (st.setK o.dst s fun st' => vcStill E rest st' k)
    | _, _ => False

def stillKind : Op → Bool
  | .move _ | .assign _ | .binOp .. | .unOp .. | .convert .. | .load .. | .indexAddr .. | .index .. | .slice .. | .field .. | .fieldAddr .. | .nilCheck _ | .extract .. | .makeFunc .. | .makeInterface .. => true
  | .call c => match c.callee with
    | .builtin .len | .builtin .min | .builtin .max => true
    | _ => false
  | _ => false

def firstLoud : List Oper → Nat
  | [] => 0
  | o :: l => if stillKind o.op then firstLoud l + 1 else 0

def vcDraw (E : Env) (ops : Array Oper) (st : St) (kn : St → Prop) (kp : SV → St → Prop) : Prop :=
  let n := min (firstLoud ops.toList) (ops.size - 1)
  if Region.lexTailB .any ops n then vcStill E (ops.toList.take n) st fun st' => vcOps E ops (ops.toList.drop n) st' kn kp
  else if Region.lexB .any ops then vcStill E ops.toList st kn
  else False

/-- Slots that are kept behind a region: those that are named, the newest each. -/
def trimSl (keep : List Nat) : List Nat → Slots → Slots
  | _, [] => []
  | seen, (i, s) :: r => if seen.contains i || !keep.contains i then trimSl keep seen r else (i, s) :: trimSl keep (i :: seen) r

def St.trim (st : St) (keep : List Nat) : St := { st with sl := trimSl keep [] st.sl, kn := st.kn.filter fun p => keep.contains p.1 }

section
variable {E : Env} {B : Base} {ρ : Nat → Value} {st : St} {a : Act} {fs : List (Array Value)} {w : World} {kv kp : SV → St → Prop}

theorem trim_lookup (keep : List Nat) : ∀ (sl : Slots) (seen : List Nat) (i : Nat) (s : SV), (trimSl keep seen sl).lookup i = some s → i ∉ seen ∧ sl.lookup i = some s
  | [], _, _, _, h => by cases h
  | (j, t) :: r, seen, i, s, h => by
    simp only [trimSl] at h
    split at h
    · rename_i hc
      obtain ⟨h1, h2⟩ := trim_lookup keep r seen i s h
      refine ⟨h1, ?_⟩
      rw [lookup_cons]
      split
      · rename_i e
        subst e
        simp only [Bool.or_eq_true, Bool.not_eq_true', List.contains_eq_mem, decide_eq_true_eq] at hc
        rcases hc with hc | hc
        · exact absurd hc h1
        · -- not kept: nothing of this name is left
          exfalso
          have : ∀ (r : Slots) (seen : List Nat), (trimSl keep seen r).lookup i = none := by
            intro r
            induction r with
            | nil => intro _; rfl
            | cons p r ih =>
              intro seen
              obtain ⟨q, u⟩ := p
              simp only [trimSl]
              split
              · exact ih _
              · rename_i hq
                rw [lookup_cons, if_neg, ih]
                rintro rfl
                simp only [Bool.or_eq_true, Bool.not_eq_true', not_or, List.contains_eq_mem, Bool.not_eq_false] at hq
                simp_all
          rw [this] at h
          cases h
      · exact h2
    · rw [lookup_cons] at h
      split at h
      · rename_i hc e
        cases h
        subst e
        refine ⟨?_, by rw [lookup_cons, if_pos rfl]⟩
        intro hm
        simp only [Bool.or_eq_true, not_or, List.contains_eq_mem] at hc
        simp_all
      · rename_i hc e
        obtain ⟨h1, h2⟩ := trim_lookup keep r (j :: seen) i s h
        exact ⟨fun hm => h1 (List.mem_cons_of_mem _ hm), by rw [lookup_cons, if_neg e]; exact h2⟩

theorem StRel.trim (h : StRel B ρ st a fs w) (keep : List Nat) : StRel B ρ (st.trim keep) a fs w :=
  ⟨h.h, ⟨h.s.1, fun i s hs => h.s.2 i s (trim_lookup keep st.sl [] i s hs).2⟩, fun t b hb => h.kn t b (List.mem_filter.1 hb).1, h.k, h.d⟩

theorem setK_sound {d : Option Nat} {s : SV} {k : St → Prop} {v : Value} (hk : st.setK d s k) (h : StRel B ρ st a fs w) (hv : s.rel (cx B ρ st.hp w) v) : ∃ st', k st' ∧ StRel B ρ st' (a.put d v) fs w := by
  unfold St.setK at hk
  cases d with
  | none => exact ⟨st, hk, h⟩
  | some i =>
    simp only at hk
    split at hk
    · rename_i hi
      exact ⟨_, hk, h.put (fun j hj => by cases hj; exact hi) hv⟩
    · exact hk.elim

theorem put_tmps_size (a : Act) (d : Option Nat) (v : Value) : (a.put d v).tmps.size = a.tmps.size := by
  cases d <;> simp [Act.put]
theorem put_defers (a : Act) (d : Option Nat) (v : Value) : (a.put d v).defers = a.defers := by
  cases d <;> rfl

/-- The world and the old frame, with another frame that is as it was. -/
theorem vcOps_sound (hE : E.Ok) {ops : Array Oper} {Q : Exit → Act → World → Prop} {kn : St → Prop} : ∀ (l : List Oper) {ρ : Nat → Value} {st : St} {a : Act} {w : World}, vcOps E ops l st kn kp → StRel B ρ st a fs w →
    (∀ st' ρ' a' w', kn st' → StRel B ρ' st' a' fs w' → Q .normal a' w') →
    (∀ s st' ρ' v a' w', kp s st' → StRel B ρ' st' a' fs w' → s.rel (cx B ρ' st'.hp w') v → Q (.panic [{ v := v, recovered := false }]) a' w') → wpList E.P ops Q l a w
  | [], ρ, st, a, w, hk, h, hn, _ => hn st ρ a w hk h
  | o :: rest, ρ, st, a, w, hk, h, hn, hp => by
    have run : ∀ {st1 : St}, vcOp E st1 o (fun s st' => st'.setK o.dst s fun st'' => vcOps E ops rest st'' kn kp) kp → StRel B ρ st1 a fs w → o.wp E.P a w (wpList E.P ops Q rest) Q := by
      intro st1 hk1 h1
      refine vcOp_sound hE h1 hk1 (fun s st' ρ' v w' hs hr hv => ?_) (fun s st' ρ' v w' hs hr hv => hp s st' ρ' v a w' hs hr hv)
      obtain ⟨st2, h2, h3⟩ := setK_sound hs hr hv
      exact vcOps_sound hE rest h2 h3 hn hp
    have skip : ∀ {st1 : St} {s : SV}, (st1.setK o.dst s fun st'' => vcOps E ops rest st'' kn kp) → StRel B ρ st1 a fs w → s.rel (cx B ρ st1.hp w) undef → wpList E.P ops Q rest (a.put o.dst undef) w := by
      intro st1 s hk1 h1 hs
      obtain ⟨st2, h2, h3⟩ := setK_sound hk1 h1 hs
      exact vcOps_sound hE rest h2 h3 hn hp
    simp only [vcOps] at hk
    unfold wpList
    split at hk
    · rename_i hg
      rw [if_pos (by simp [Region.wanted, hg])]
      exact .inl (run hk h)
    · rename_i j want hg
      split at hk
      · exact hk.elim
      · rename_i g hgd
        have wanted : ∀ b : Bool, g < st.n → a.tmps.getD g undef = .bool b → Region.wanted o (yielded ops a.tmps) = (b == want) := by
          intro b hlt hb
          have hsz : g < a.tmps.size := by rw [h.s.1]; exact hlt
          have : a.tmps[g]? = some (.bool b) := by
            rw [Array.getD_eq_getD_getElem?, Array.getElem?_eq_getElem hsz] at hb
            rw [Array.getElem?_eq_getElem hsz]
            simpa using hb
          simp only [Region.wanted, hg, yielded, hgd, Option.bind_some, this]
          cases b <;> cases want <;> rfl
        split at hk
        · rename_i b hkn
          have hmem : (g, b) ∈ st.kn := by
            have key : ∀ (l : List (Nat × Bool)), l.lookup g = some b → (g, b) ∈ l := by
              intro l
              induction l with
              | nil => intro h; cases h
              | cons p l ih =>
                obtain ⟨q, c⟩ := p
                intro h
                by_cases e : g = q
                · subst e
                  simp [List.lookup] at h
                  subst h
                  exact List.mem_cons_self
                · have e' : (g == q) = false := by simp [e]
                  simp only [List.lookup, e'] at h
                  exact List.mem_cons_of_mem _ (ih h)
            exact key _ hkn
          obtain ⟨h1, h2⟩ := h.kn g b hmem
          rw [wanted b h1 h2]
          split at hk
          · rename_i e
            subst e
            rw [if_pos (by simp)]
            exact .inl (run hk h)
          · rename_i e
            rw [if_neg (by simpa using e)]
            exact skip hk h trivial
        · split at hk
          · rename_i b hlk
            obtain ⟨h1, h2⟩ := h.s.2 g _ hlk
            have h2 := VRep_bool.1 h2
            rw [wanted b h1 h2]
            split at hk
            · rename_i obs s hop
              by_cases e : b = want
              · subst e
                rw [if_pos (by simp)]
                obtain ⟨h3, _⟩ := conj_all (hk.1 rfl)
                obtain ⟨v, h4, h5⟩ := op1_sound hE.ty h hop h3
                refine .inl ?_
                unfold Oper.wp
                rw [h4]
                obtain ⟨st2, h6, h7⟩ := setK_sound hk.2 h (v := v) (fun _ => h5)
                exact vcOps_sound hE rest h6 h7 hn hp
              · rw [if_neg (by simpa using e)]
                exact skip hk.2 h (fun hc => absurd (by simpa using hc) e)
            · by_cases e : b = want
              · subst e
                rw [if_pos (by simp)]
                exact .inl (run (hk.1 rfl) (h.know h1 h2))
              · rw [if_neg (by simpa using e)]
                have e' : b = !want := by cases b <;> cases want <;> simp_all
                exact skip (hk.2 e') (h.know h1 (by rw [h2, e'])) trivial
          · exact hk.elim

theorem vcStill_sound (hE : E.Ok) {ops : Array Oper} {K : Act → Prop} {k : St → Prop} : ∀ (l : List Oper) {ρ : Nat → Value} {st : St} {a : Act}, vcStill E l st k → StRel B ρ st a fs w →
    (∀ st' ρ' a', k st' → StRel B ρ' st' a' fs w → K a') → wpStill E.P ops w K l a
  | [], ρ, st, a, hk, h, hn => hn st ρ a hk h
  | o :: rest, ρ, st, a, hk, h, hn => by
    simp only [vcStill] at hk
    split at hk
    · rename_i obs s hg hop
      obtain ⟨h1, h2⟩ := conj_all hk
      obtain ⟨v, h3, h4⟩ := op1_sound hE.ty h hop h1
      obtain ⟨st2, h5, h6⟩ := setK_sound h2 h h4
      unfold wpStill
      rw [if_pos (by simp [Region.wanted, hg])]
      unfold Oper.still
      rw [h3]
      exact ⟨rfl, vcStill_sound hE rest h5 h6 hn⟩
    · exact hk.elim

theorem vcDraw_sound (hE : E.Ok) {id : Nat} {ops : Array Oper} {Q : Exit → Act → World → Prop} {kn : St → Prop} (hk : vcDraw E ops st kn kp) (h : StRel B ρ st a fs w)
    (hn : ∀ st' ρ' a' w', kn st' → StRel B ρ' st' a' fs w' → Q .normal a' w')
    (hp : ∀ s st' ρ' v a' w', kp s st' → StRel B ρ' st' a' fs w' → s.rel (cx B ρ' st'.hp w') v → Q (.panic [{ v := v, recovered := false }]) a' w') : (Code.region id ops true).wp E.P Q a w := by
  have h' : StRel B ρ st a fs { w with drawn := w.drawn + 1 } := h.same_heap rfl rfl rfl rfl
  unfold vcDraw at hk
  simp only at hk
  split at hk
  · rename_i ht
    have e : ops = ops.toList.toArray := by simp
    rw [e]
    rw [e] at ht
    simp only [List.size_toArray, Array.length_toList] at ht
    refine wp_region_still_tail _ hE.mixed ht ?_
    refine vcStill_sound hE _ hk h' (fun st' ρ' a' hs hr => ?_)
    have := vcOps_sound hE _ hs hr hn hp
    rw [e] at this
    simpa using this
  · split at hk
    · rename_i ht
      exact wp_region_still hE.mixed ht (vcStill_sound hE _ hk h' (fun st' ρ' a' hs hr => hn st' ρ' a' _ hs hr))
    · exact hk.elim
end
end Go.Vc
