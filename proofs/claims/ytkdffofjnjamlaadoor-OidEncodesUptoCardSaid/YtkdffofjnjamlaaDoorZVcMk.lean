/- The append of a make to nil. -/
import Derived.Test.YtkdffofjnjamlaaDoorZVcEff3
import Derived.Test.YtkdffofjnjamlaaDoorZVcStr
import Derived.Laws.Append
set_option linter.unusedVariables false
set_option linter.unusedSimpArgs false
namespace Go.Vc
open Go.RowKit

theorem run_append_zeros_nil {P : Program} (w : World) (t u ty e : TypeId) (ku : IntKind) (i : TypeInfo) (z : Value) (ht : P.underlying t = some (.slice e)) (hu : P.underlying u = some (.int ku)) (hi : P.info? e = some i) (hz : i.zero = some z)
    (k : IntKind) (n : Int) (h0 : 0 < n) (hsz : 0 < i.size) (hn : n ≤ 1000000000) (hb : i.bytes ≤ 1000) :
    ∃ c, n.toNat ≤ c ∧ c ≤ 9223372036854775807 ∧ (Builtin.append_ #[t, u] ty #[.slice none 0 0, .int k n]).run P w =
      .ok (.slice (some ⟨w.heap.size, 0, none⟩) n.toNat c) (w.drew.alloc (.cells (Builtin.zeroCells z.cells n.toNat ++ Builtin.zeroCells z.cells (c - n.toNat)) e)) := by
  refine ⟨grownCap w n.toNat 0 e, grownCap_ge _ _ _ _, ?_, ?_⟩
  · have := grownCap_le_maxLen w n.toNat 0 e (by simp only [maxLen]; omega)
    simpa [maxLen] using this
  · have w0 : IntKind.i64.wrap n = n := by rw [IntKind.wrap_i64]; omega
    have h1 : ¬ n < 0 := by omega
    have h2 : ¬ (281474976710656 < n * (i.bytes : Int)) := by
      have : n * (i.bytes : Int) ≤ 1000000000 * 1000 := Int.mul_le_mul hn (by omega) (by omega) (by omega)
      omega
    have h3 : ¬ n.toNat * i.size = 0 := by
      have : 0 < n.toNat * i.size := Nat.mul_pos (by omega) hsz
      omega
    have h4 : ¬ n.toNat ≤ 0 := by omega
    have h5 : ¬ (9223372036854775807 < (n.toNat : Int)) := by omega
    simp [Builtin.append_, run_underlying ht, run_underlying hu, sizeOf, typeInfo, zeroValue, hi, hz, asInt, asIntOf, w0, h1, h2, h3, h4, h5, Question.forced, newRow, grownCap]
    have h6 : ¬ n ≤ 0 := by omega
    have h7 : ¬ (9223372036854775807 < max n 0) := by omega
    have h8 : ¬ (281474976710656 < Builtin.nextslicecap n.toNat 0 * i.bytes) := by
      have : n.toNat * i.bytes ≤ 1000000000 * 1000 := Nat.mul_le_mul (by omega) hb
      have := growslice_fits (need := n.toNat) (old := 0) (bytes := i.bytes) (by omega) (by omega)
      omega
    rw [if_neg h6, if_neg h7, if_neg h8]
    simp [Builtin.firstCells, Result.andThen]

/-- So many zeros behind nothing. -/
def St.appMk (E : Ty) (st : St) (t t' : Nat) (s x : SV) (kv : SV → St → Prop) : Prop :=
  match E.d t, E.d t', s, x with
  | .sl e, .int _, .cst c, .dat (.int _) n => match E.k e with
    | some k => if nilSlice c ∧ 0 < k.sz ∧ E.bytes e ≤ 1000 then
        0 < n ∧ n ≤ 1000000000 ∧ kv (.own st.hp.length) { st with hp := st.hp ++ [some (.row e k (List.replicate n.toNat k.dft))] }
      else False
    | none => False
  | _, _, _, _ => False

theorem zeros_seg {z : Array Value} {sz i n m : Nat} (hz : z.size = sz) (hi : i < n) : ((Builtin.zeroCells z n ++ Builtin.zeroCells z m).toList.drop (i * sz)).take sz = z.toList := by
  have h1 : (i + 1) * sz ≤ n * z.size := by rw [hz]; exact Nat.mul_le_mul_right _ hi
  have h2 := made_seg hz h1
  have e : Builtin.zeroCells z n = madeCells z (n * z.size) := rfl
  rw [Array.toList_append, e]
  have hl : (madeCells z (n * z.size)).toList.length = n * z.size := by rw [Array.length_toList, size_madeCells]
  rw [List.drop_append_of_le_length (by rw [hl]; rw [Nat.add_mul] at h1; omega), List.take_append_of_le_length (by rw [List.length_drop, hl]; rw [Nat.add_mul] at h1; omega)]
  exact h2

section
variable {E : Ty} {B : Base} {ρ : Nat → Value} {st : St} {a : Act} {fs : List Act} {w : World} {kv : SV → St → Prop}

theorem appMk_sound (hE : E.Ok) (h : StRel B ρ st a fs w) {t t' : Nat} {s x : Operand} {o : Oper} {c : Call} (e : o.op = .call c) (hc : c.callee = .builtin .append) (ha : c.args = #[s, x]) (hta : c.argTypes = #[t, t'])
    (hk : st.appMk E t t' (st.ev s) (st.ev x) kv) : Yield E B o a fs w kv := by
  have hd := hE.d t
  have hd' := hE.d t'
  have hx := ev_rel h x
  have hs := ev_rel h s
  unfold St.appMk at hk
  split at hk
  · rename_i el ku c0 kx n e1 e2 e3 e4
    rw [e1] at hd
    rw [e2] at hd'
    rw [e4] at hx
    rw [e3] at hs
    obtain ⟨hxv, _⟩ := VRep_int.1 hx
    split at hk
    · rename_i k hkk
      split at hk
      · rename_i hcond
        obtain ⟨hn, hsz0, hby⟩ := hcond
        obtain ⟨h0, h1, hkv⟩ := hk
        obtain ⟨_, _, inf, z, hi, hsz, hb, hz, hzc⟩ := hE.k hkk
        have hs : a.eval s = c0 := hs
        rw [nilSlice_eq hn] at hs
        have hzs : z.cells.size = k.sz := by
          have := congrArg List.length hzc
          rw [zero_len] at this
          simpa using this
        obtain ⟨cap, hc1, hc2, hrun⟩ := run_append_zeros_nil (P := E.P) w t t' o.type el ku inf z hd hd' hi hz kx n h0 (by omega) h1 (by omega)
        have T : Turn B ρ (upd ρ st.hp.length (.slice (some ⟨w.heap.size, 0, none⟩) n.toNat cap)) st.hp (st.hp ++ [some (.row el k (List.replicate n.toNat k.dft))]) w
            (w.drew.alloc (.cells (Builtin.zeroCells z.cells n.toNat ++ Builtin.zeroCells z.cells (cap - n.toNat)) el)) st.hp.length none :=
          Turn.new ⟨rfl, rfl, rfl, by simp, fun k hk _ => Below.heap_alloc w.drew _ k hk⟩ (fun b hb => by cases hb; exact Nat.le_refl _)
        refine ⟨_, _, _, _, _, _, ?_, .inl rfl, hkv, h.turn T (fun ob hob => ?_), ⟨by simp, (upd_same _ _ _).symm, _, _, _, rfl⟩⟩
        · unfold execOp
          rw [e]
          simp only [resolve, hc, ha, hta, Sem.run_bind, Sem.run_pure, Result.andThen_ok, invoke, builtin, List.map_toArray, List.map_cons, List.map_nil, hs, hxv, hrun]
        · rw [getElem?_snoc] at hob
          cases hob
          rw [upd_same]
          have hh : (w.drew.alloc (.cells (Builtin.zeroCells z.cells n.toNat ++ Builtin.zeroCells z.cells (cap - n.toNat)) el)).heap[w.heap.size]? = some (.cells (Builtin.zeroCells z.cells n.toNat ++ Builtin.zeroCells z.cells (cap - n.toNat)) el (0, 0)) := heap_alloc_new w.drew _
          have hcur : (Builtin.zeroCells z.cells n.toNat ++ Builtin.zeroCells z.cells (cap - n.toNat)).size = cap * k.sz := by
            rw [Array.size_append, size_zeroCells, size_zeroCells, hzs, ← Nat.add_mul]; congr 1; omega
          refine ⟨(Builtin.zeroCells z.cells n.toNat ++ Builtin.zeroCells z.cells (cap - n.toNat)).toList.take (n.toNat * k.sz), .inl ⟨?_, .inr ⟨_, cap, _, by simp, Nat.zero_le _, hh, by simpa using hc1, by simp only [maxLen]; omega, hcur, by simp⟩⟩, fun i x hx => ?_⟩
          · rw [List.length_take, List.length_replicate, Array.length_toList, hcur]
            have : n.toNat * k.sz ≤ cap * k.sz := Nat.mul_le_mul_right _ hc1
            omega
          · obtain ⟨hi', hx3⟩ := List.getElem?_eq_some_iff.1 hx
            rw [List.length_replicate] at hi'
            simp only [List.getElem_replicate] at hx3
            subst hx3
            have h2 : (i + 1) * k.sz ≤ n.toNat * k.sz := Nat.mul_le_mul_right _ hi'
            rw [List.drop_take, List.take_take, Nat.min_eq_left (by rw [Nat.add_mul] at h2; omega), zeros_seg hzs hi', hzc]
            exact rep_zero k
      · exact hk.elim
    · exact hk.elim
  · exact hk.elim
end
end Go.Vc
