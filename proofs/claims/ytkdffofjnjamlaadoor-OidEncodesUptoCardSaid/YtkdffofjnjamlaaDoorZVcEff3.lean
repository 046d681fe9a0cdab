/- New rows, made. -/
import Derived.Test.YtkdffofjnjamlaaDoorZVcEff2
import Derived.Laws.OwnMore
set_option linter.unusedVariables false
set_option linter.unusedSimpArgs false
namespace Go.Vc
open Go.RowKit

def St.make (E : Ty) (st : St) (t : Nat) (l c : SV) (kv : SV → St → Prop) : Prop :=
  match E.d t, l, c with
  | .sl e, .dat (.int _) n, .dat (.int _) m => match E.k e with
    | some k => (0 ≤ n ∧ n ≤ m) ∧ (E.bytes e : Int) * m ≤ 281474976710656 ∧ m ≤ 9223372036854775807 ∧
        kv (.own st.hp.length) { st with hp := st.hp ++ [some (.row e k (List.replicate n.toNat k.dft))] }
    | none => False
  | _, _, _ => False

theorem inR0 (k : IntKind) : InR k 0 := by
  cases k <;> exact ⟨by decide, by decide⟩

theorem rep_zero {w : World} {F : Nat → Prop} : ∀ k : Kd, Rep w F k k.dft k.zero
  | .int k => ⟨rfl, inR0 k⟩
  | .bool => rfl
  | .str => ⟨⟨#[]⟩, rfl, rfl, by show (0 : Nat) ≤ _; omega⟩
  | .sl k => ⟨none, 0, rfl, Nat.le_refl _, by omega, fun h => absurd rfl h⟩
  | .pair a b => ⟨a.zero, b.zero, rfl, rep_zero a, rep_zero b⟩
  | .unit => rfl

theorem zero_len : ∀ k : Kd, k.zero.length = k.sz := by
  intro k
  induction k <;> simp_all [Kd.zero, Kd.sz]

theorem made_seg {cells : Array Value} {sz i N : Nat} (hc : cells.size = sz) (hi : (i + 1) * sz ≤ N) : ((madeCells cells N).toList.drop (i * sz)).take sz = cells.toList := by
  apply List.ext_getElem?
  intro j
  rw [List.getElem?_take]
  split
  · rename_i hj
    rw [List.getElem?_drop]
    have h1 : i * sz + j < N := by rw [Nat.add_mul] at hi; omega
    have h2 : (i * sz + j) % cells.size = j := by rw [hc, Nat.mul_comm, Nat.mul_add_mod, Nat.mod_eq_of_lt hj]
    have hj2 : j < cells.size := by omega
    unfold madeCells
    simp [h1, h2, hj2]
  · rename_i hj
    rw [List.getElem?_eq_none (by simp; omega)]

section
variable {E : Ty} {B : Base} {ρ : Nat → Value} {st : St} {a : Act} {fs : List Act} {w : World} {kv : SV → St → Prop}

theorem make_core (hE : E.Ok) (h : StRel B ρ st a fs w) {t e : Nat} {l c : Operand} {o : Oper} (ho : o.op = .makeSlice t l c) (hd : E.d t = .sl e) {k : Kd} (hk : E.k e = some k) {kl kc : IntKind} {n m : Int}
    (hl : a.eval l = .int kl n) (hc : a.eval c = .int kc m) (hnm : 0 ≤ n ∧ n ≤ m) (hby : (E.bytes e : Int) * m ≤ 281474976710656) (hm : m ≤ 9223372036854775807)
    (hkv : kv (.own st.hp.length) { st with hp := st.hp ++ [some (.row e k (List.replicate n.toNat k.dft))] }) : Yield E B o a fs w kv := by
  have hdt := hE.d t
  rw [hd] at hdt
  obtain ⟨_, _, inf, z, hi, hsz, hb, hz, hzc⟩ := hE.k hk
  have hzs : z.cells.size = k.sz := by
    have := congrArg List.length hzc
    rw [zero_len] at this
    simpa using this
  have hrun := run_makeSlice w t e inf z hdt hi hz kl kc n m hnm.1 hnm.2
  rw [hb] at hrun
  have hrun2 := run_make (P := E.P) w t e inf z hdt hi hz kl kc n m hnm.1 hnm.2 (by rw [hb]; exact hby) hm
  have hnm2 : n.toNat ≤ m.toNat := by omega
  have T : Turn B ρ (upd ρ st.hp.length (.slice (some ⟨w.heap.size, 0, none⟩) n.toNat m.toNat)) st.hp (st.hp ++ [some (.row e k (List.replicate n.toNat k.dft))]) w
      (w.alloc (.cells (madeCells z.cells (m.toNat * inf.size)) e)) st.hp.length none :=
    Turn.new (World.grownBy_alloc w _ none) (fun b hb => by cases hb; exact Nat.le_refl _)
  refine ⟨_, _, _, _, _, _, ?_, .inl rfl, hkv, h.turn T (fun ob hob => ?_), ⟨by simp, (upd_same _ _ _).symm, _, _, _, rfl⟩⟩
  · unfold execOp
    rw [ho]
    simp only [hl, hc, Sem.run_bind, hrun2, Result.andThen_ok, Sem.run_pure]
  · rw [getElem?_snoc] at hob
    cases hob
    rw [upd_same]
    have hh : (w.alloc (.cells (madeCells z.cells (m.toNat * inf.size)) e)).heap[w.heap.size]? = some (.cells (madeCells z.cells (m.toNat * inf.size)) e (0, 0)) := heap_alloc_new w _
    have hcur : (madeCells z.cells (m.toNat * inf.size)).size = m.toNat * k.sz := by rw [size_madeCells, hsz]
    have hle : n.toNat * k.sz ≤ m.toNat * k.sz := Nat.mul_le_mul_right _ hnm2
    refine ⟨(madeCells z.cells (m.toNat * inf.size)).toList.take (n.toNat * k.sz), .inl ⟨by rw [List.length_take, List.length_replicate, Array.length_toList, hcur]; omega, .inr ⟨_, m.toNat, _, by simp, Nat.zero_le _, hh, by simpa using hnm2, by simp only [maxLen]; omega, hcur, by simp⟩⟩, fun i x hx => ?_⟩
    have hx2 := List.getElem?_eq_some_iff.1 hx
    obtain ⟨hi', hx3⟩ := hx2
    rw [List.length_replicate] at hi'
    simp only [List.getElem_replicate] at hx3
    subst hx3
    have hseg : (((madeCells z.cells (m.toNat * inf.size)).toList.take (n.toNat * k.sz)).drop (i * k.sz)).take k.sz = k.zero := by
      have h1 : (i + 1) * k.sz ≤ n.toNat * k.sz := Nat.mul_le_mul_right _ hi'
      rw [List.drop_take, List.take_take, Nat.min_eq_left (by rw [Nat.add_mul] at h1; omega), ← hzc]
      exact made_seg hzs (by rw [hsz]; omega)
    rw [hseg]
    exact rep_zero k

theorem make_sound (hE : E.Ok) (h : StRel B ρ st a fs w) {t : Nat} {l c : Operand} {o : Oper} (ho : o.op = .makeSlice t l c) (hk : st.make E t (st.ev l) (st.ev c) kv) : Yield E B o a fs w kv := by
  have hl := ev_rel h l
  have hc := ev_rel h c
  unfold St.make at hk
  split at hk
  · rename_i e kl n kc m e1 e2 e3
    rw [e2] at hl
    rw [e3] at hc
    split at hk
    · rename_i k e4
      exact make_core hE h ho e1 e4 (VRep_int.1 hl).1 (VRep_int.1 hc).1 hk.1 hk.2.1 hk.2.2.1 hk.2.2.2
    · exact hk.elim
  · exact hk.elim
end
end Go.Vc
