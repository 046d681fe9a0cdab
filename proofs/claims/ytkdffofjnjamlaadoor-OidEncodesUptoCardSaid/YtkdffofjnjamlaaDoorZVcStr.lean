/- A string's bytes appended: where the row lies. -/
import Derived.Test.YtkdffofjnjamlaaDoorZVcEff2
import Derived.Lib.AppendStr
set_option linter.unusedVariables false
set_option linter.unusedSimpArgs false
namespace Go.Vc
open Go.RowKit

theorem run_append_str_at {P : Program} (w : World) (base : Nat) (t u ty e : TypeId) (i : TypeInfo) (ht : P.underlying t = some (.slice e)) (hu : P.underlying u = some .string) (hi : P.info? e = some i) (hz : i.zero = some (.int .u8 0))
    (hsize : i.size = 1) (hby : i.bytes = 1)
    (v : Value) (n : Nat) (xs : List Value) (hown : w.ownsRow base e 1 v n xs) (s : ByteArray)
    (h63 : n + s.size ≤ maxLen) (hbytes : n + s.size ≤ 140737488355328) (hbase : base ≤ w.heap.size) :
    ∃ v' w', (Builtin.append_ #[t, u] ty #[v, .string s]).run P w = .ok v' w' ∧ w'.ownsRow base e 1 v' (n + s.size) (xs ++ Lib.strCells s) ∧ w.grownBy w' v.ownBlock ∧
      (v'.ownBlock = v.ownBlock ∨ v'.ownBlock = some w.heap.size) := by
  obtain ⟨v', w', hr, h1, h2, _⟩ := Lib.run_append_own_string (P := P) w base t u ty e i ht hu hi hz hsize hby v n xs hown s h63 hbytes hbase
  refine ⟨v', w', hr, h1, h2, ?_⟩
  have hsmall : n + s.size ≤ 9223372036854775807 := by simp only [maxLen] at h63; omega
  have hxl : xs.length = n := by simpa using hown.1
  have key : ∀ {v2 : Value} {w2 : World}, (Builtin.append_ #[t, u] ty #[v, .string s]).run P w = .ok v2 w2 → v' = v2 := fun h => by
    rw [hr] at h; cases h; rfl
  rcases hown.2 with ⟨rfl, rfl⟩ | ⟨g, cap, cur, rfl, hbg, hg, hnc, hcm, hcs, htake⟩
  · by_cases hm : s.size = 0
    · have hf := Lib.run_firstCells_string (P := P) w 1 s
      rw [hm] at hf
      have := key (v2 := .slice none 0 0) (w2 := w) (by simp [Builtin.append_, run_underlying ht, run_underlying hu, sizeOf, typeInfo, hi, hsize, Builtin.lenOf, hm, hf])
      rw [this]
      exact .inl rfl
    · have hr2 := run_append_nil_string (P := P) w t u ty e i (.int .u8 0) ht hu hi hz s (by omega) (by omega) (by rw [hby]; omega)
      rw [key hr2]
      exact .inr rfl
  · by_cases hroom : n + s.size ≤ cap
    · have hcs' : cur.size = cap := by simpa using hcs
      rw [key (Lib.run_append_room_string (P := P) w t u ty e i ht hu hi hsize g n cap cur hg s hroom (by omega))]
      exact .inl rfl
    · have holds : ∀ j u, xs[j]? = some u → w.cell? ((⟨g, 0, none⟩ : Addr).add j) = some u := hown.cells (g := g) rfl
      rw [key (Lib.run_append_grow_string (P := P) w t u ty e i (.int .u8 0) ht hu hi hz ⟨g, 0, none⟩ n cap xs (by rw [hsize]; simpa using hxl) holds s (by omega) (by omega) (by rw [hby]; exact growslice_fits (by omega) (by omega)))]
      exact .inr rfl

/-- A text's bytes, put behind a row of bytes. -/
def St.appStr (E : Ty) (st : St) (t t' : Nat) (s x : SV) (kv : SV → St → Prop) : Prop :=
  match E.d t, E.d t', x with
  | .sl e, .str, .dat .str l => match E.k e, st.base e (.int .u8) s with
    | some (.int .u8), some (obs, n, xs) => conj obs <| (E.P.info? e).map (·.zero) = some (some (.int .u8 0)) ∧ E.bytes e = 1 ∧ xs.length + l.length ≤ 140737488355328 ∧
        kv (.own st.hp.length) { st with hp := killOpt st.hp n ++ [some (.row e (.int .u8) (xs ++ l))] }
    | _, _ => False
  | _, _, _ => False

section
variable {E : Ty} {B : Base} {ρ : Nat → Value} {st : St} {a : Act} {fs : List Act} {w : World} {kv : SV → St → Prop} {C : Cx}

theorem appStr_sound (hE : E.Ok) (h : StRel B ρ st a fs w) {t t' : Nat} {s x : Operand} {o : Oper} {c : Call} (e : o.op = .call c) (hc : c.callee = .builtin .append) (ha : c.args = #[s, x]) (hta : c.argTypes = #[t, t'])
    (hk : st.appStr E t t' (st.ev s) (st.ev x) kv) : Yield E B o a fs w kv := by
  have hd := hE.d t
  have hd' := hE.d t'
  have hx := ev_rel h x
  unfold St.appStr at hk
  split at hk
  · rename_i e' l e1 e2 e3
    rw [e1] at hd
    rw [e2] at hd'
    rw [e3] at hx
    obtain ⟨s0, hs0, hl, hsz0⟩ := VRep_str.1 hx
    split at hk
    · rename_i obs n xs e4 hb
      obtain ⟨hobs, hz0, hby, hlen, hkv⟩ := conj_all hk
      obtain ⟨_, _, inf, z, hi, hsz, hby', hz, hzc⟩ := hE.k e4
      have hz' : inf.zero = some (.int .u8 0) := by
        rw [hi] at hz0
        simpa using hz0
      obtain ⟨inner, hown, hreps, hblk, hdead⟩ := base_rel h hb hobs
      have hll : l.length = s0.size := by rw [← hl, bs_length]
      obtain ⟨v', w', hr, h1, h2, h3⟩ := run_append_str_at (P := E.P) w 0 t t' o.type e' inf hd hd' hi hz' hsz (by rw [hby', hby]) (a.eval s) xs.length inner hown s0 (by simp only [maxLen]; omega) (by omega) (Nat.zero_le _)
      refine row_grown (k := .int .u8) (ys := (show List (Kd.T (.int .u8)) from l)) h hown.1 hreps hblk hdead ?_ (by rw [hll]; exact h1) h2 h3 (fun i y hy => ?_) hkv
      · unfold execOp
        rw [e]
        simp only [resolve, hc, ha, hta, Sem.run_bind, Sem.run_pure, Result.andThen_ok, invoke, builtin, List.map_toArray, List.map_cons, List.map_nil, hs0, hr]
      · have hi' := (List.getElem?_eq_some_iff.1 hy).1
        have hrange := bs_range s0 y (by rw [hl]; exact List.mem_iff_getElem?.2 ⟨i, hy⟩)
        have hcell : (Lib.strCells s0)[i]? = some (.int .u8 y) := by
          rw [← hl] at hy
          simp only [bs, List.getElem?_map] at hy
          obtain ⟨b, hb1, hb2⟩ := Option.map_eq_some_iff.1 hy
          simp only [Lib.strCells, List.getElem?_map, hb1, Option.map_some]
          rw [hb2]
        show _ = [Value.int .u8 y] ∧ InR .u8 y
        refine ⟨?_, ?_⟩
        · have hj := (List.getElem?_eq_some_iff.1 hcell).1
          show ((Lib.strCells s0).drop (i * 1)).take 1 = _
          rw [Nat.mul_one, List.drop_eq_getElem_cons hj, (List.getElem?_eq_some_iff.1 hcell).2]
          rfl
        · simp [InR, IntKind.min, IntKind.max, IntKind.signed, IntKind.bits]; omega
    · exact hk.elim
  · exact hk.elim
end
end Go.Vc
