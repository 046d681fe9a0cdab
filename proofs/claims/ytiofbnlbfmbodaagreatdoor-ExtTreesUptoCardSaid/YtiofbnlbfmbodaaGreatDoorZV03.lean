/- Texts of a verified walk, led together: Eff2, Eff3, Str, Mk, Map, Step, Free, Hold. -/
import Derived.Test.YtiofbnlbfmbodaaGreatDoorZV02
import Derived.Laws.OwnMore
import Derived.Lib.AppendStr
import Derived.Laws.Append
import Derived.RangeFuncRecord
import Derived.StillTail
import Derived.Scope
import Derived.WalkSmall
import Derived.RangeFuncCalls
import Derived.RecoverIn
import Derived.Lib.DecodeN
import Derived.Maps.RangeRun
import Derived.OrdersHeld
set_option linter.unusedVariables false
set_option linter.unusedSimpArgs false
section
namespace Go.Vc
open Go.RowKit
def castL {a b : Kd} (h : a = b) (x : List a.T) : List b.T := h ▸ x
theorem castL_len {a : Kd} (x : List a.T) : (castL rfl x).length = x.length := rfl
def conj : List Prop → Prop → Prop
  | [], k => k
  | p :: l, k => p ∧ conj l k
theorem conj_all : ∀ {l : List Prop} {k : Prop}, conj l k → (∀ p ∈ l, p) ∧ k
  | [], _, h => ⟨(fun p hp => by cases hp), h⟩
  | p :: l, k, h => by
    obtain ⟨h1, h2⟩ := conj_all h.2
    exact ⟨fun q hq => by
      rcases List.mem_cons.1 hq with rfl | hq
      . exact h.1
      . exact h1 q hq, h2⟩
def St.base (st : St) (e : Nat) (k : Kd) : SV → Option (List Prop × Option Nat × List k.T)
  | .own n => match st.hp[n]? with
    | some (some (.row e' k' xs)) => if h : k' = k then (if e' = e ∧ e < BIG then some ([], some n, castL h xs) else none) else none
    | _ => none
  | .sub n k'' off len => match st.hp[n]? with
    | some (some (.row e' k' xs)) => if h : k' = k then (if e' = e ∧ k'' = k ∧ e < BIG then some ([off = 0], some n, castL h (xs.take len)) else none) else none
    | _ => none
  | .cst c => if nilSlice c then some ([], none, []) else none
  | _ => none
def St.src (st : St) (k : Kd) : SV → Option (List k.T)
  | .cst c => if nilSlice c then some [] else none
  | .dat .str l => match k with | .int .u8 => some l | _ => none
  | s => match st.list s with
    | some ⟨k', xs⟩ => if h : k' = k then some (castL h xs) else none
    | none => none
def killOpt (hp : List (Option Ob)) : Option Nat → List (Option Ob)
  | some n => hp.set n none
  | none => hp
def St.append (E : Ty) (st : St) (t : Nat) (s x : SV) (kv : SV → St → Prop) : Prop :=
  match E.d t with
  | .sl e => match E.k e with
    | some k => match st.base e k s, st.src k x with
      | some (obs, n, xs), some ys => conj obs <| 0 < k.sz ∧ (xs.length + ys.length) * E.bytes e ≤ 140737488355328 ∧ xs.length + ys.length ≤ 9223372036854775807 ∧
          kv (.own st.hp.length) { st with hp := killOpt st.hp n ++ [some (.row e k (xs ++ ys))] }
      | _, _ => False
    | none => False
  | _ => False
section
variable {E : Ty} {B : Base} {ρ : Nat → Value} {st : St} {a : Act} {fs : List Act} {w : World} {kv : SV → St → Prop} {C : Cx}
theorem els_cells {α : Type} {rep : α → List Value → Prop} {sz : Nat} (hsz : ∀ x cs, rep x cs → cs.length = sz) {ad : Addr} : ∀ {xs : List α}, Els w rep sz ad xs →
    ∃ news : List Value, news.length = xs.length * sz ∧ (∀ j u, news[j]? = some u → w.cell? (ad.add j) = some u) ∧ ∀ i x, xs[i]? = some x → rep x ((news.drop (i * sz)).take sz)
  | [], _ => ⟨[], by simp, (fun j u h => by cases h), (fun i x h => by cases h)⟩
  | x :: xs, h => by
    obtain ⟨ecs, h1, h2⟩ := h 0 x rfl
    have hl := hsz _ _ h1
    obtain ⟨news, h3, h4, h5⟩ := els_cells (ad := ad.add sz) hsz (xs := xs) (fun i y hy => by
      obtain ⟨ecs, h6, h7⟩ := h (i + 1) y hy
      refine ⟨ecs, h6, fun j u hu => ?_⟩
      have := h7 j u hu
      rw [addr_add_add]
      rw [Nat.add_mul, Nat.one_mul] at this
      rw [show sz + (i * sz + j) = i * sz + sz + j by omega]
      exact this)
    refine ⟨ecs ++ news, by simp [h3, hl, Nat.add_mul]; omega, fun j u hu => ?_, fun i y hy => ?_⟩
    . by_cases hj : j < ecs.length
      . rw [List.getElem?_append_left hj] at hu
        have := h2 j u hu
        simpa using this
      . rw [List.getElem?_append_right (by omega)] at hu
        have := h4 _ u hu
        rw [addr_add_add] at this
        rw [show sz + (j - ecs.length) = j by omega] at this
        exact this
    . cases i with
      | zero =>
        cases hy
        rw [Nat.zero_mul, List.drop_zero, List.take_append_of_le_length (by omega), List.take_of_length_le (by omega)]
        exact h1
      | succ i =>
        have := h5 i y hy
        rw [Nat.add_mul, Nat.one_mul, List.drop_append, List.drop_of_length_le (by omega), List.nil_append, show i * sz + sz - ecs.length = i * sz by omega]
        exact this
theorem run_append_nothing {P : Program} {t ty e : Nat} {i : TypeInfo} {size : Nat} (ht : P.underlying t = some (.slice e)) (hi : P.info? e = some i)
    {v : Value} {n : Nat} {xs : List Value} (hown : w.ownsRow 0 e size v n xs) (c : Nat) : (Builtin.append_ #[t, t] ty #[v, .slice none 0 c]).run P w = .ok v w := by
  rcases hown.2 with ⟨rfl, rfl⟩ | ⟨g, cap, cur, rfl, _, _, hnc, _⟩
  . simp [Builtin.append_, run_underlying ht, sizeOf, typeInfo, hi, Builtin.lenOf, Builtin.firstCells]
  . simp [Builtin.append_, run_underlying ht, sizeOf, typeInfo, hi, Builtin.lenOf, Builtin.firstCells, hnc, storeCells]
theorem src_rel (h : StRel B ρ st a fs w) {s : SV} {v : Value} (hs : s.rel (cx B ρ st.hp w) v) {k : Kd} {ys : List k.T} (hx : st.src k s = some ys) (hstr : ∀ l, s ≠ .dat .str l) :
    ∃ (A : Option Addr) (c : Nat), v = .slice A ys.length c ∧ (ys ≠ [] → ∃ ad, A = some ad ∧ Els w (Rep w (Forb B ρ st.hp) k) k.sz ad ys) := by
  unfold St.src at hx
  split at hx
  . rename_i c
    split at hx
    . rename_i hn
      cases hx
      have hs : v = c := hs
      rw [hs, nilSlice_eq hn]
      exact ⟨none, 0, rfl, fun h => absurd rfl h⟩
    . cases hx
  . exact absurd rfl (hstr _)
  . split at hx
    . rename_i k' xs hl
      split at hx
      . rename_i e
        subst e
        cases hx
        obtain ⟨A, c, h1, _, _, h2⟩ := list_rel h hs hl
        refine ⟨A, c, h1, fun hne => ?_⟩
        obtain ⟨ad, h3, _, h4⟩ := h2 hne
        exact ⟨ad, h3, h4⟩
      . cases hx
    . cases hx
theorem base_relV (h : StRel B ρ st a fs w) {sx : SV} {v : Value} (hs : sx.rel (cx B ρ st.hp w) v) {e' : Nat} {k : Kd} {obs : List Prop} {n : Option Nat} {xs : List k.T} (hb : st.base e' k sx = some (obs, n, xs)) (hobs : ∀ p ∈ obs, p) :
    ∃ inner, w.ownsRow 0 e' k.sz v xs.length inner ∧ (∀ i x, xs[i]? = some x → Rep w (Forb B ρ st.hp) k x ((inner.drop (i * k.sz)).take k.sz)) ∧
            (∀ b, v.ownBlock = some b → ∃ m ob, n = some m ∧ st.hp[m]? = some (some ob) ∧ blk (ρ m) = some b) ∧ (∀ m, n = some m → ∃ ob, st.hp[m]? = some (some ob) ∧ ∀ b, v.ownBlock = some b → blk (ρ m) = some b) := by
  unfold St.base at hb
  split at hb
  . rename_i m
    split at hb
    . rename_i e0 k0 xs0 hob
      split at hb
      . rename_i hke
        subst hke
        split at hb
        . rename_i hee
          obtain ⟨rfl, hB⟩ := hee
          cases hb
          have := h.h.obj m _ hob
          obtain ⟨inner, h1, h2⟩ := this
          obtain ⟨_, h3, h4⟩ := hs
          rw [h3]
          have hblk : ∀ b, (ρ m).ownBlock = some b → blk (ρ m) = some b := by
            intro b hb
            have h4 : ∃ A q c, ρ m = .slice A q c := by
              rcases h1.form.2 with ⟨e, _⟩ | ⟨g, cap, cur, e0, fz, e, _⟩
              . exact ⟨_, _, _, e⟩
              . exact ⟨_, _, _, e⟩
            obtain ⟨A, q, c, h4⟩ := h4
            rw [h4] at hb ⊢
            cases A with
            | none => cases hb
            | some ad => exact hb
          exact ⟨inner, h1.low hB, h2, fun b hb => ⟨m, _, rfl, hob, hblk b hb⟩, fun m' hm' => by cases hm'; exact ⟨_, hob, hblk⟩⟩
        . cases hb
      . cases hb
    . cases hb
  . rename_i m k0 off len
    split at hb
    . rename_i e0 k1 xs0 hob
      split at hb
      . rename_i hke
        subst hke
        split at hb
        . rename_i hee
          obtain ⟨rfl, rfl, hB⟩ := hee
          cases hb
          have h00 : off = 0 := hobs _ (by simp)
          subst h00
          obtain ⟨inner, hrow0, h2⟩ := h.h.obj m _ hob
          obtain ⟨hl0, hh0⟩ := hrow0.low hB
          obtain ⟨_, A0, m', cap, A', c', e5, e6, e7, e8, e9, e10⟩ := hs
          have e10 : A' = A0 := by
            rcases e10 with e10 | e10
            . rw [e10, ← map_add0]
            . omega
          subst e10
          simp only at e5
          rw [e6]
          have hlen0 : (xs0.take len).length = len := by
            rcases hh0 with ⟨hh0, hn0⟩ | ⟨g, cp, cur, hh0, _⟩
            . rw [hh0] at e5; cases e5; simp; omega
            . rw [hh0] at e5; cases e5; simp; omega
          have hxs0 : m' = xs0.length := by
            rcases hh0 with ⟨hh0, hn0⟩ | ⟨g, cp, cur, hh0, _⟩
            . rw [hh0] at e5; cases e5; omega
            . rw [hh0] at e5; cases e5; rfl
          have hblk : ∀ b, (Value.slice A' len c').ownBlock = some b → blk (ρ m) = some b := by
            intro b hb
            rw [e5]
            cases A' with
            | none => cases hb
            | some ad => exact hb
          have hle : len * k0.sz ≤ xs0.length * k0.sz := Nat.mul_le_mul_right _ (by omega)
          refine ⟨inner.take (len * k0.sz), ⟨?_, ?_⟩, fun i x hx => ?_, fun b hb => ⟨m, _, rfl, hob, hblk b hb⟩, fun m2 hm2 => by cases hm2; exact ⟨_, hob, hblk⟩⟩
          . show (inner.take (len * k0.sz)).length = (xs0.take len).length * k0.sz
            rw [hlen0, List.length_take, hl0]; omega
          . show (Value.slice A' len c' = .slice none 0 0 ∧ (xs0.take len).length = 0) ∨ _
            rcases hh0 with ⟨hh0, hn0⟩ | ⟨g, cp, cur, hh0, h11, h12, h13, h14, h15, h16⟩
            . rw [hh0] at e5; cases e5
              left
              exact ⟨by congr 1 <;> omega, by rw [hlen0]; omega⟩
            . rw [hh0] at e5; cases e5
              right
              refine ⟨g, c', cur, by rw [castL_len, hlen0], h11, h12, by rw [castL_len, hlen0]; omega, by omega, by rw [h15]; congr 1; omega, ?_⟩
              rw [castL_len, hlen0, ← h16, List.take_take, Nat.min_eq_left (by omega)]
          . have hx : (xs0.take len)[i]? = some x := hx
            rw [List.getElem?_take] at hx
            split at hx
            . rename_i hil
              have h3 := h2 i x hx
              have h4 : (i + 1) * k0.sz ≤ len * k0.sz := Nat.mul_le_mul_right _ hil
              rw [List.drop_take, List.take_take, Nat.min_eq_left (by rw [Nat.add_mul] at h4; omega)]
              exact h3
            . cases hx
        . cases hb
      . cases hb
    . cases hb
  . rename_i c0
    split at hb
    . rename_i hn
      cases hb
      have hs : v = c0 := hs
      rw [hs, nilSlice_eq hn]
      exact ⟨[], World.ownsRow_nil _ _ _ _, (fun i x hx => by cases hx), (fun b hb => by cases hb), (fun m hm => by cases hm)⟩
    . cases hb
  . cases hb
theorem base_rel (h : StRel B ρ st a fs w) {s : Operand} {e' : Nat} {k : Kd} {obs : List Prop} {n : Option Nat} {xs : List k.T} (hb : st.base e' k (st.ev s) = some (obs, n, xs)) (hobs : ∀ p ∈ obs, p) :
    ∃ inner, w.ownsRow 0 e' k.sz (a.eval s) xs.length inner ∧ (∀ i x, xs[i]? = some x → Rep w (Forb B ρ st.hp) k x ((inner.drop (i * k.sz)).take k.sz)) ∧
            (∀ b, (a.eval s).ownBlock = some b → ∃ m ob, n = some m ∧ st.hp[m]? = some (some ob) ∧ blk (ρ m) = some b) ∧ (∀ m, n = some m → ∃ ob, st.hp[m]? = some (some ob) ∧ ∀ b, (a.eval s).ownBlock = some b → blk (ρ m) = some b) :=
  base_relV h (ev_rel h s) hb hobs
def St.trunc (st : St) (s : SV) (kv : SV → St → Prop) : Prop :=
  match s with
  | .sub n k off len => match st.hp[n]? with
    | some (some (.row e _ _)) => match st.base e k (.sub n k off len) with
      | some (obs, some m, ys) => conj obs (kv (.own st.hp.length) { st with hp := st.hp.set m none ++ [some (.row e k ys)] })
      | _ => kv s st
    | _ => kv s st
  | _ => kv s st
theorem trunc_sound (h : StRel B ρ st a fs w) {s : SV} {v : Value} (hs : s.rel (cx B ρ st.hp w) v) (hk : st.trunc s kv) : ∃ s' st' ρ', kv s' st' ∧ StRel B ρ' st' a fs w ∧ s'.rel (cx B ρ' st'.hp w) v := by
  unfold St.trunc at hk
  split at hk
  . rename_i n k off len
    split at hk
    . rename_i e k' xs hob
      split at hk
      . rename_i obs m ys hb
        obtain ⟨hobs, hk⟩ := conj_all hk
        obtain ⟨inner, hown, hreps, hblk, hdead⟩ := base_relV h hs hb hobs
        obtain ⟨ob, hm, hb2⟩ := hdead m rfl
        have hform : ∃ A q c, v = .slice A q c := by
          rcases hown.2 with ⟨rfl, _⟩ | ⟨g, cap, cur, rfl, _⟩
          . exact ⟨_, _, _, rfl⟩
          . exact ⟨_, _, _, rfl⟩
        have hvb : ∀ b, blk v = some b → v.ownBlock = some b := by
          intro b hb
          obtain ⟨A, q, c, rfl⟩ := hform
          cases A with
          | none => cases hb
          | some ad => exact hb
        have T : Turn B ρ (upd ρ st.hp.length v) st.hp (st.hp.set m none ++ [some (.row e k ys)]) w w st.hp.length none :=
          Turn.renew hm ⟨rfl, rfl, rfl, Nat.le_refl _, fun _ _ _ => rfl⟩ (fun b hb => by cases hb) (fun b hb => .inr (hb2 b (hvb b hb)))
        refine ⟨_, _, upd ρ st.hp.length v, hk, h.turn T (fun ob2 hob2 => ?_), ⟨by simp, (upd_same _ _ _).symm, .inl hform⟩⟩
        have hlen : (st.hp.set m none).length = st.hp.length := by simp
        rw [List.getElem?_append_right (by omega), hlen, Nat.sub_self] at hob2
        cases hob2
        rw [upd_same]
        exact ⟨inner, .inl hown, fun i x hx => (hreps i x hx).step T.le.size T.le.same T.le.F⟩
      . exact ⟨_, _, _, hk, h, hs⟩
    . exact ⟨_, _, _, hk, h, hs⟩
  . exact ⟨_, _, _, hk, h, hs⟩
theorem row_grown (h : StRel B ρ st a fs w) {o : Oper} {sv : Value} {e' : Nat} {k : Kd} {n : Option Nat} {xs ys : List k.T} {inner : List Value} (hinl : inner.length = xs.length * k.sz)
    (hreps : ∀ i x, xs[i]? = some x → Rep w (Forb B ρ st.hp) k x ((inner.drop (i * k.sz)).take k.sz))
    (hblk : ∀ b, sv.ownBlock = some b → ∃ m ob, n = some m ∧ st.hp[m]? = some (some ob) ∧ blk (ρ m) = some b) (hdead : ∀ m, n = some m → ∃ ob, st.hp[m]? = some (some ob) ∧ ∀ b, sv.ownBlock = some b → blk (ρ m) = some b)
    {v' : Value} {w' : World} {news : List Value} (hexec : (execOp a.eval o).run E.P w = .ok (.value v') w') (hown' : w'.ownsRow 0 e' k.sz v' (xs.length + ys.length) (inner ++ news)) (hgrow : w.grownBy w' sv.ownBlock)
    (hat : v'.ownBlock = sv.ownBlock ∨ v'.ownBlock = some w.heap.size) (hnews : ∀ i x, ys[i]? = some x → Rep w (Forb B ρ st.hp) k x ((news.drop (i * k.sz)).take k.sz))
    (hkv : kv (.own st.hp.length) { st with hp := killOpt st.hp n ++ [some (.row e' k (xs ++ ys))] }) : Yield E B o a fs w kv := by
  have hform : ∃ A q c, v' = .slice A q c := by
    rcases hown'.2 with ⟨rfl, _⟩ | ⟨g, cap, cur, rfl, _⟩
    . exact ⟨_, _, _, rfl⟩
    . exact ⟨_, _, _, rfl⟩
  have hvb : ∀ b, blk v' = some b → v'.ownBlock = some b := by
    intro b hb
    obtain ⟨A, q, c, rfl⟩ := hform
    cases A with
    | none => cases hb
    | some ad => exact hb
  have T : Turn B ρ (upd ρ st.hp.length v') st.hp (killOpt st.hp n ++ [some (.row e' k (xs ++ ys))]) w w' st.hp.length sv.ownBlock := by
    cases n with
    | some m =>
      obtain ⟨ob, hob, hb2⟩ := hdead m rfl
      exact Turn.renew hob hgrow hb2 (fun b hb => by
        rcases hat with h1 | h1
        . exact .inr (hb2 b (by rw [← h1]; exact hvb b hb))
        . rw [hvb b hb] at h1; cases h1; exact .inl (Nat.le_refl _))
    | none =>
      have hnone : sv.ownBlock = none := by
        cases hq : sv.ownBlock with
        | none => rfl
        | some b => obtain ⟨m, _, hm, _⟩ := hblk b hq; cases hm
      rw [hnone] at hgrow hat ⊢
      exact Turn.new hgrow (fun b hb => by
        rcases hat with h1 | h1
        . rw [hvb b hb] at h1; cases h1
        . rw [hvb b hb] at h1; cases h1; exact Nat.le_refl _)
  refine ⟨_, w', _, _, _, v', hexec, .inl rfl, hkv, h.turn T (fun ob hob => ?_), ⟨?_, (upd_same _ _ _).symm, .inl hform⟩⟩
  . have hlen : (killOpt st.hp n).length = st.hp.length := by cases n <;> simp [killOpt]
    rw [List.getElem?_append_right (by omega), hlen, Nat.sub_self] at hob
    cases hob
    rw [upd_same]
    refine ⟨inner ++ news, by rw [List.length_append]; exact .inl hown', fun i x hx => ?_⟩
    by_cases hil : i < xs.length
    . rw [List.getElem?_append_left hil] at hx
      have h1 := (hreps i x hx).step T.le.size T.le.same T.le.F
      have hle : i * k.sz + k.sz ≤ inner.length := by
        rw [hinl]
        have := Nat.mul_le_mul_right k.sz (show i + 1 ≤ xs.length from hil)
        rw [Nat.add_mul, Nat.one_mul] at this
        exact this
      rw [List.drop_append_of_le_length (by omega), List.take_append_of_le_length (by simp; omega)]
      exact h1
    . rw [List.getElem?_append_right (by omega)] at hx
      have h1 := (hnews _ x hx).step T.le.size T.le.same T.le.F
      have hle : i * k.sz = inner.length + (i - xs.length) * k.sz := by
        rw [hinl, ← Nat.add_mul]; congr 1; omega
      rw [hle, ← List.drop_drop, List.drop_left]
      exact h1
  . have hlen : (killOpt st.hp n).length = st.hp.length := by cases n <;> simp [killOpt]
    simp [hlen]
theorem append_sound (hE : E.Ok) (h : StRel B ρ st a fs w) {t : Nat} {s x : Operand} {o : Oper} {c : Call} (e : o.op = .call c) (hc : c.callee = .builtin .append) (ha : c.args = #[s, x]) (hta : c.argTypes = #[t, t])
    (hstr : ∀ l, st.ev x ≠ .dat .str l) (hk : st.append E t (st.ev s) (st.ev x) kv) : Yield E B o a fs w kv := by
  have hd := hE.d t
  unfold St.append at hk
  split at hk
  . rename_i e' e1
    rw [e1] at hd
    have hd : E.P.underlying t = some (.slice e') := hd
    split at hk
    . rename_i k e2
      obtain ⟨_, _, inf, z, hi, hsz, hby, hz, hzc⟩ := hE.k e2
      split at hk
      . rename_i obs n xs ys hb hx
        obtain ⟨hobs, hk⟩ := conj_all hk
        obtain ⟨hpos, hbytes, h63, hkv⟩ := hk
        obtain ⟨A, cc, hv, hels⟩ := src_rel h (ev_rel h x) hx hstr
        have hzs : z.cells.size = k.sz := by
          have : z.cells.toList.length = k.zero.length := by rw [hzc]
          have hl : ∀ k : Kd, k.zero.length = k.sz := by
            exact fun k => zero_len k
          rw [hl] at this; simpa using this
        have hrow := base_rel h hb hobs
        obtain ⟨inner, hown, hreps, hblk, hdead⟩ := hrow
        have hinl := hown.1
        -- what the call leaves
        have fin : ∀ (v' : Value) (w' : World) (news : List Value), (Builtin.append_ #[t, t] o.type #[a.eval s, a.eval x]).run E.P w = .ok v' w' → w'.ownsRow 0 e' k.sz v' (xs.length + ys.length) (inner ++ news) → w.grownBy w' (a.eval s).ownBlock →
            (v'.ownBlock = (a.eval s).ownBlock ∨ v'.ownBlock = some w.heap.size) → (∀ i x, ys[i]? = some x → Rep w (Forb B ρ st.hp) k x ((news.drop (i * k.sz)).take k.sz)) → Yield E B o a fs w kv := by
          intro v' w' news hrun hown' hgrow hat hnews
          refine row_grown h hinl hreps hblk hdead ?_ hown' hgrow hat hnews hkv
          unfold execOp
          rw [e]
          simp only [resolve, hc, ha, hta, Sem.run_bind, Sem.run_pure, Result.andThen_ok, invoke, builtin, List.map_toArray, List.map_cons, List.map_nil, hrun]
        -- the two ways
        have hrepl : ∀ x cs, Rep w (Forb B ρ st.hp) k x cs → cs.length = k.sz := fun x cs h => h.length
        cases A with
        | none =>
          have hy : ys = [] := by
            cases hys : ys with
            | nil => rfl
            | cons y l => obtain ⟨ad, h1, _⟩ := hels (by rw [hys]; simp); cases h1
          subst hy
          refine fin (a.eval s) w [] (by rw [hv]; exact run_append_nothing hd hi hown cc) (by simpa using hown) ⟨rfl, rfl, rfl, Nat.le_refl _, fun _ _ _ => rfl⟩ (.inl rfl) (fun i x hx => by cases hx)
        | some ad =>
          have hnews : ∃ news : List Value, news.length = ys.length * k.sz ∧ (∀ j u, news[j]? = some u → w.cell? (ad.add j) = some u) ∧ ∀ i x, ys[i]? = some x → Rep w (Forb B ρ st.hp) k x ((news.drop (i * k.sz)).take k.sz) := by
            by_cases hne : ys = []
            . subst hne; exact ⟨[], by simp, (fun j u h => by cases h), (fun i x h => by cases h)⟩
            . obtain ⟨ad', h1, h2⟩ := hels hne
              cases h1
              exact els_cells hrepl h2
          obtain ⟨news, h1, h2, h3⟩ := hnews
          have hone : ∀ u ∈ news, u.oneCell' = true := by
            intro u hu
            obtain ⟨j, hj, rfl⟩ := List.mem_iff_getElem.1 hu
            have hjs : j / k.sz < ys.length := Nat.div_lt_of_lt_mul (by rw [Nat.mul_comm, ← h1]; exact hj)
            have h4 := h3 (j / k.sz) _ (List.getElem?_eq_getElem hjs)
            refine h4.one _ ?_
            have hm : j / k.sz * k.sz + j % k.sz = j := by rw [Nat.mul_comm]; exact Nat.div_add_mod j k.sz
            have hmod : j % k.sz < k.sz := Nat.mod_lt _ hpos
            refine List.mem_iff_getElem?.2 ⟨j % k.sz, ?_⟩
            rw [List.getElem?_take, if_pos hmod, List.getElem?_drop, hm, List.getElem?_eq_getElem hj]
          obtain ⟨v', w', hr, h5, h6, _, h7⟩ := run_append_own_at (P := E.P) w 0 t o.type e' inf z k.sz (E.bytes e') hd hi hz hsz hby hzs hpos (a.eval s) xs.length inner hown ad ys.length cc news h1 h2 hone (by simpa [maxLen] using h63) hbytes (Nat.zero_le _)
          exact fin v' w' news (by rw [hv]; exact hr) h5 h6 h7 h3
      . exact hk.elim
    . exact hk.elim
  . exact hk.elim
end
def St.storePart (st : St) (n : Nat) (e : TypeId) (k0 : Kd) (xs : List k0.T) (k : Kd) (i off z : Nat) (l : List SV) (kv : SV → St → Prop) : Prop :=
  if k = k0 ∧ off + l.length ≤ k0.sz ∧ l.length = z then
    match unleaf k0 ((leaves k0 (xs.getD i k0.dft)).take off ++ l ++ (leaves k0 (xs.getD i k0.dft)).drop (off + l.length)) with
    | some (y, []) => kv .junk { st with hp := st.hp.set n (some (.row e k0 (xs.set i y))) }
    | _ => False
  else False
def arrData (m : Nat) (k : Kd) : SV → Option (List k.T)
  | .dat k' x => if h : k' = .arr m k then some (castT h x) else none
  | .agg l => match unleaf (.arr m k) l with
    | some (ys, []) => some ys
    | _ => none
  | _ => none
def St.storeArr (E : Ty) (st : St) (t n : Nat) (x : SV) (kv : SV → St → Prop) : Prop :=
  match E.d t, st.hp[n]? with
  | .arr m _, some (some (.row e0 k0 xs)) => if k0.isAgg = false ∧ E.sz t = some m then
      match arrData m k0 x with
      | some ys => xs.length = m ∧ kv .junk { st with hp := st.hp.set n (some (.row e0 k0 ys)) }
      | none => False
    else False
  | _, _ => False
def St.store (E : Ty) (st : St) (t : Nat) (ad x : SV) (kv : SV → St → Prop) : Prop :=
  match ad, E.sz t, x.cells with
  | .rptr n, some _, some _ => st.storeArr E t n x kv
  | .ptr n o, some z, some l => match st.hp[n]? with
    | some (some (.var ty cs)) => if l.length = z ∧ o + z ≤ cs.length then kv .junk { st with hp := st.hp.set n (some (.var ty (cs.take o ++ l ++ cs.drop (o + z)))) } else False
    | _ => False
  | .oel n k i off, some z, some l => match st.hp[n]?, E.k t with
    | some (some (.row e k0 xs)), some kt => if h : kt = k0 then
        if kt = k ∧ off = 0 then
          match unleaf kt l with
          | some (y, []) => kv .junk { st with hp := st.hp.set n (some (.row e k0 (xs.set i (castT h y)))) }
          | _ => False
        else False
      else st.storePart n e k0 xs k i off z l kv
    | _, _ => False
  | _, _, _ => False
section
variable {E : Ty} {B : Base} {ρ : Nat → Value} {st : St} {a : Act} {fs : List Act} {w : World} {kv : SV → St → Prop} {C : Cx}
theorem run_storeCells_q {P : Program} (g o : Nat) (t : TypeId) (fz : Nat × Nat) : ∀ (vs : List Value) (i : Nat) (cur : Array Value) (w : World), w.heap[g]? = some (.cells cur t fz) → (fz = (0, 0) ∨ cur.size ≤ fz.1) → o + i + vs.length ≤ cur.size → (∀ v ∈ vs, v.oneCell' = true) →
    (storeCells ⟨g, o, none⟩ vs i).run P w = .ok () (w.setRow g (cur.toList.take (o + i) ++ vs ++ cur.toList.drop (o + i + vs.length)).toArray)
  | [], i, cur, w, hg, _, _, _ => by
    simp only [storeCells, List.append_nil, List.length_nil, Nat.add_zero, List.take_append_drop, Array.toArray_toList]
    rw [setRow_self w g cur t fz hg]
    rfl
  | v :: rest, i, cur, w, hg, hfz, hl, h1 => by
    have hi : o + i < cur.size := by simp at hl; omega
    have hadd : (⟨g, o, none⟩ : Addr).add i = ⟨g, o + i, none⟩ := by unfold Addr.add; split <;> simp_all
    have hcell : w.cell? ⟨g, o + i, none⟩ = some cur[o + i] := by simp [World.cell?, hg, hi]
    have hfro : w.frozen? ⟨g, o + i, none⟩ = false := by
      obtain ⟨lo, hi'⟩ := fz
      simp only [World.frozen?, hg, Bool.and_eq_false_iff, decide_eq_false_iff_not]
      rcases hfz with hfz | hfz
      . cases hfz; right; omega
      . left; simp only at hfz; omega
    have hst : (store ((⟨g, o, none⟩ : Addr).add i) v).run P w = .ok () (w.setRow g (cur.setIfInBounds (o + i) v)) := by
      rw [hadd, run_store P w _ v _ (h1 v (by simp)), hcell]
      simp [hfro, setCell_eq_setRow w g (o + i) cur t fz v hg]
    have ih := run_storeCells_q (P := P) g o t fz rest (i + 1) (cur.setIfInBounds (o + i) v) (w.setRow g (cur.setIfInBounds (o + i) v)) (setRow_heap w g cur _ t _ hg) (by simpa using hfz) (by simp at hl ⊢; omega) (fun x hx => h1 x (by simp [hx]))
    simp only [storeCells, Sem.run_bind, hst, Result.andThen_ok, ih, setRow_setRow]
    congr 3
    have e := list_seg_step cur.toList (o + i) v rest (by simp at hl ⊢; omega)
    simpa [Array.toList_setIfInBounds, Nat.add_assoc] using e
theorem run_storeVar {P : Program} {t : Nat} {inf : TypeInfo} (hi : P.info? t = some inf) {g o : Nat} {v : Value} {ty : TypeId} {cur : Array Value} {fz : Nat × Nat} (hg : w.heap[g]? = some (.cells cur ty fz)) (hfz : fz = (0, 0) ∨ cur.size ≤ fz.1)
    (hl : v.cells.size = inf.size) (hr : o + v.cells.size ≤ cur.size) (h1 : ∀ u ∈ v.cells.toList, u.oneCell' = true) :
    (storeVar t ⟨g, o, none⟩ v).run P w = .ok () (w.setRow g (cur.toList.take o ++ v.cells.toList ++ cur.toList.drop (o + v.cells.size)).toArray) := by
  unfold storeVar
  have hl' : ¬ v.cells.size ≠ inf.size := by simpa using hl
  have := run_storeCells_q (P := P) g o ty fz v.cells.toList 0 cur w hg hfz (by simpa using hr) h1
  simp only [Nat.add_zero, Array.length_toList] at this
  simp only [Sem.run_bind, run_sizeOf hi, Result.andThen_ok, hl', if_false, this]
theorem RowOk.set {e sz g n n' cap : Nat} {xs : List Value} (h : RowOk w e sz (.slice (some ⟨g, 0, none⟩) n cap) n' xs) : n' = n ∧ ∃ (cur : Array Value) (e0 : Nat) (fz : Nat × Nat), w.heap[g]? = some (.cells cur e0 fz) ∧ (fz = (0, 0) ∨ cur.size ≤ fz.1) ∧ n' ≤ cap ∧ cap ≤ maxLen ∧ cur.size = cap * sz ∧ cur.toList.take (n' * sz) = xs ∧
    ∀ cur' : Array Value, cur'.size = cur.size → RowOk (w.setRow g cur') e sz (.slice (some ⟨g, 0, none⟩) n' cap) n' (cur'.toList.take (n' * sz)) := by
  rcases h with ⟨h1, ⟨h2, _⟩ | ⟨g', cap', cur, h2, h3, h4, h5, h6, h7, h8⟩⟩ | ⟨hB, h1, g', cap', cur, fz, h2, h4, hz, h5, h6, h7, h8⟩
  . cases h2
  . cases h2
    have hle : n * sz ≤ cap * sz := Nat.mul_le_mul_right _ h5
    refine ⟨rfl, cur, e, (0, 0), h4, .inl rfl, h5, h6, h7, h8, fun cur' hc => .inl ⟨?_, .inr ⟨g, cap, cur', rfl, h3, setRow_heap w g _ _ e (0, 0) h4, h5, h6, by rw [hc, h7], rfl⟩⟩⟩
    rw [List.length_take, Array.length_toList, hc, h7]; omega
  . cases h2
    have hle : n * sz ≤ cap * sz := Nat.mul_le_mul_right _ h5
    refine ⟨rfl, cur, _, fz, h4, .inr hz, h5, h6, h7, h8, fun cur' hc => .inr ⟨hB, ?_, g, cap, cur', fz, rfl, setRow_heap w g _ _ _ fz h4, by rw [hc]; exact hz, h5, h6, by rw [hc, h7], rfl⟩⟩
    rw [List.length_take, Array.length_toList, hc, h7]; omega
theorem splice_get (A V : List Value) (p z q : Nat) (hV : V.length = z) (hA : p + z ≤ A.length) : (A.take p ++ V ++ A.drop (p + z))[q]? = if p ≤ q ∧ q < p + z then V[q - p]? else A[q]? := by
  have h1 : (A.take p).length = p := by simp; omega
  have h2 : (A.take p ++ V).length = p + z := by simp [hV]; omega
  by_cases c1 : q < p
  . rw [if_neg (by omega), List.getElem?_append_left (by omega), List.getElem?_append_left (by omega), List.getElem?_take, if_pos c1]
  . by_cases c2 : q < p + z
    . rw [if_pos ⟨by omega, c2⟩, List.getElem?_append_left (by omega), List.getElem?_append_right (by omega), h1]
    . rw [if_neg (by omega), List.getElem?_append_right (by omega), h2, List.getElem?_drop, show p + z + (q - (p + z)) = q by omega]
theorem splice_seg (A V : List Value) (i j z m : Nat) (hV : V.length = z) (hA : m * z ≤ A.length) (hi : i < m) (hj : j < m) :
    (((A.take (i * z) ++ V ++ A.drop (i * z + z)).take (m * z)).drop (j * z)).take z = if j = i then V else ((A.take (m * z)).drop (j * z)).take z := by
  have hle : ∀ i, i < m → i * z + z ≤ m * z := fun i hi => by
    have := Nat.mul_le_mul_right z (show i + 1 ≤ m from hi)
    rw [Nat.add_mul, Nat.one_mul] at this
    exact this
  have h1 := hle i hi
  have h2 := hle j hj
  apply List.ext_getElem?
  intro q
  by_cases hq : q < z
  . rw [List.getElem?_take, if_pos hq, List.getElem?_drop, List.getElem?_take, if_pos (by omega), splice_get A V (i * z) z (j * z + q) hV (by omega)]
    by_cases e : j = i
    . subst e
      rw [if_pos (by omega), if_pos rfl]
      congr 1; omega
    . have hne : ¬ (i * z ≤ j * z + q ∧ j * z + q < i * z + z) := by
        rintro ⟨h3, h4⟩
        rcases Nat.lt_or_gt_of_ne e with h5 | h5
        . have := Nat.mul_le_mul_right z (show j + 1 ≤ i from h5)
          rw [Nat.add_mul, Nat.one_mul] at this
          omega
        . have := Nat.mul_le_mul_right z (show i + 1 ≤ j from h5)
          rw [Nat.add_mul, Nat.one_mul] at this
          omega
      rw [if_neg hne, if_neg e, List.getElem?_take, if_pos hq, List.getElem?_drop, List.getElem?_take, if_pos (by omega)]
  . rw [List.getElem?_take, if_neg hq]
    split
    . rw [List.getElem?_eq_none (by omega)]
    . rw [List.getElem?_take, if_neg hq]
theorem splice_part (A V : List Value) (i j z off m : Nat) (hA : m * z ≤ A.length) (hi : i < m) (hj : j < m) (ho : off + V.length ≤ z) :
    (((A.take (i * z + off) ++ V ++ A.drop (i * z + off + V.length)).take (m * z)).drop (j * z)).take z = if j = i then (((A.take (m * z)).drop (j * z)).take z).take off ++ V ++ (((A.take (m * z)).drop (j * z)).take z).drop (off + V.length) else ((A.take (m * z)).drop (j * z)).take z := by
  have hle : ∀ i, i < m → i * z + z ≤ m * z := fun i hi => by
    have := Nat.mul_le_mul_right z (show i + 1 ≤ m from hi)
    rw [Nat.add_mul, Nat.one_mul] at this
    exact this
  have h1 := hle i hi
  have h2 := hle j hj
  have hS : (((A.take (m * z)).drop (j * z)).take z).length = z := by rw [List.length_take, List.length_drop, List.length_take]; omega
  apply List.ext_getElem?
  intro q
  by_cases hq : q < z
  . rw [List.getElem?_take, if_pos hq, List.getElem?_drop, List.getElem?_take, if_pos (by omega), splice_get A V (i * z + off) V.length (j * z + q) rfl (by omega)]
    have hs : (((A.take (m * z)).drop (j * z)).take z)[q]? = A[j * z + q]? := by rw [List.getElem?_take, if_pos hq, List.getElem?_drop, List.getElem?_take, if_pos (by omega)]
    by_cases e : j = i
    . subst e
      rw [if_pos rfl, splice_get _ V off V.length q rfl (by omega), hs]
      by_cases hc : off ≤ q ∧ q < off + V.length
      . rw [if_pos (by omega), if_pos hc]
        congr 1; omega
      . rw [if_neg (by omega), if_neg hc]
    . have hne : ¬ (i * z + off ≤ j * z + q ∧ j * z + q < i * z + off + V.length) := by
        rintro ⟨h3, h4⟩
        rcases Nat.lt_or_gt_of_ne e with h5 | h5
        . have := Nat.mul_le_mul_right z (show j + 1 ≤ i from h5)
          rw [Nat.add_mul, Nat.one_mul] at this
          omega
        . have := Nat.mul_le_mul_right z (show i + 1 ≤ j from h5)
          rw [Nat.add_mul, Nat.one_mul] at this
          omega
      rw [if_neg hne, if_neg e, hs]
  . rw [List.getElem?_take, if_neg hq]
    split
    . rw [List.getElem?_eq_none]
      rw [List.length_append, List.length_append, List.length_take, List.length_drop, hS]
      omega
    . rw [List.getElem?_take, if_neg hq]
theorem grownBy_setRow (w : World) (g : Nat) (cs : Array Value) : w.grownBy (w.setRow g cs) (some g) :=
  ⟨rfl, rfl, rfl, by simp, fun k _ hk => setRow_other w g k cs (fun e => hk (by rw [e]))⟩
theorem arrData_rel {m : Nat} {k : Kd} {s : SV} {ys : List k.T} {v : Value} (h : arrData m k s = some ys) (hs : s.rel C v) : VRep C.w C.F (.arr m k) ys v := by
  unfold arrData at h
  split at h
  . split at h
    . rename_i e
      subst e
      cases h
      exact hs
    . cases h
  . rename_i l
    split at h
    . rename_i ys' e
      cases h
      obtain ⟨vs, rfl, hr⟩ := hs
      exact ⟨vs, unleaf_all e hr, rfl⟩
    . cases h
  . cases h
theorem storeArr_sound (hE : E.Ok) (h : StRel B ρ st a fs w) {t n : Nat} {ad x : Operand} {o : Oper} (e : o.op = .store t ad x) {sx : SV} (ha : (SV.rptr n).rel (cx B ρ st.hp w) (a.eval ad)) (hx : sx.rel (cx B ρ st.hp w) (a.eval x))
    (hk : st.storeArr E t n sx kv) : Yield E B o a fs w kv := by
  unfold St.storeArr at hk
  split at hk
  . rename_i m e1 e0 k0 xs hd hob
    split at hk
    . rename_i hc
      obtain ⟨hagg, hz⟩ := hc
      obtain ⟨inf, hi, hsz, _⟩ := hE.sz hz
      have hk1 := sz_one hagg
      split at hk
      . rename_i ys hy
        obtain ⟨hxm, hk⟩ := hk
        obtain ⟨cs, ⟨h1, h2⟩, h3⟩ := arrData_rel hy hx
        rw [if_pos (show (Kd.arr m k0).isAgg = true from rfl)] at h3
        have hcl := h2.length (sz := k0.sz) fun x _ c hc => hc.length
        rw [hk1, Nat.mul_one, h1] at hcl
        obtain ⟨hn, g, m', cap, h4, h5, hcap⟩ := ha
        simp only at h4
        obtain ⟨inner, ho, hreps⟩ := h.h.obj n _ hob
        simp only at ho
        rw [h4] at ho
        obtain ⟨hm, cur, e1', fz, h6, hz', h7, h8, h9, h10, hset⟩ := ho.set
        rw [hk1, Nat.mul_one] at h9
        have hcur : cur.size = m := by omega
        have T : Turn B ρ ρ st.hp (st.hp.set n (some (.row e0 k0 ys))) w (w.setRow g cs.toArray) n (some g) :=
          Turn.at hob (grownBy_setRow _ _ _) (fun b hb => by cases hb; rw [h4]; rfl)
        refine ⟨.skip, _, _, _, ρ, undef, ?_, .inr ⟨rfl, rfl⟩, hk, h.turn T (fun ob hob2 => ?_), trivial⟩
        . unfold execOp
          rw [e]
          simp only [Instr.storeAt, Instr.sureAddr, h5, Sem.run_bind, Sem.run_pure, Result.andThen_ok]
          rw [run_storeVar hi h6 hz' (by rw [h3, hsz]; simpa [Value.cells] using hcl) (by rw [h3]; simp [Value.cells, hcl, hcur]) (by
            rw [h3]
            exact fun u hu => h2.all (p := fun u => u.oneCell' = true) (fun x _ c hc => hc.one) u (by simpa [Value.cells] using hu))]
          rw [h3]
          have e5 : cur.toList.drop (0 + cs.toArray.size) = [] := List.drop_of_length_le (by simp [hcl, hcur])
          simp only [Value.cells, List.take_zero, List.nil_append, e5, List.append_nil, Array.toArray_toList]
          rfl
        . have hnl := (List.getElem?_eq_some_iff.1 hob).1
          rw [List.getElem?_set_self (by simpa using hnl)] at hob2
          cases hob2
          have hset2 := hset cs.toArray (by simp [hcl, hcur])
          have e6 : cs.take (xs.length * k0.sz) = cs := List.take_of_length_le (by rw [hk1, Nat.mul_one]; omega)
          have e7 : ys.length = xs.length := by
            have h1 : List.length (α := k0.T) ys = m := h1
            omega
          refine ⟨cs, ?_, fun i y hy' => ?_⟩
          . rw [h4, e7]
            have hset3 : RowOk (w.setRow g cs.toArray) e0 k0.sz (.slice (some ⟨g, 0, none⟩) xs.length cap) xs.length (cs.take (xs.length * k0.sz)) := hset2
            rw [e6] at hset3
            rw [← hm]
            exact hset3
          . exact (repL_seg h2 (fun x c hc => hc.length) hy').step T.le.size T.le.same T.le.F
      . exact hk.elim
    . exact hk.elim
  . exact hk.elim
theorem store_sound (hE : E.Ok) (h : StRel B ρ st a fs w) {t : Nat} {ad x : Operand} {o : Oper} (e : o.op = .store t ad x) {sa sx : SV} (ha : sa.rel (cx B ρ st.hp w) (a.eval ad)) (hx : sx.rel (cx B ρ st.hp w) (a.eval x))
    (hk : st.store E t sa sx kv) : Yield E B o a fs w kv := by
  unfold St.store at hk
  split at hk
  . exact storeArr_sound hE h e ha hx hk
  . rename_i n oo z l hz hl
    obtain ⟨inf, hi, hsz, _⟩ := hE.sz hz
    split at hk
    . rename_i ty cs hob
      split at hk
      . rename_i hc
        obtain ⟨hn, b, h1, h2⟩ := ha
        obtain ⟨b', vs, h3, h4, h5⟩ := h.h.obj n _ hob
        simp only at h1
        rw [h3] at h1
        simp only [Value.pointer.injEq, Option.some.injEq, Addr.mk.injEq, and_true] at h1
        subst h1
        have hr := cells_rel hl hx
        have hlen := rels_length hr
        have hlen2 := rels_length h5
        simp only [Array.length_toList] at hlen
        have T : Turn B ρ ρ st.hp (st.hp.set n (some (.var ty (cs.take oo ++ l ++ cs.drop (oo + z))))) w (w.setRow b' (vs.take oo ++ (a.eval x).cells.toList ++ vs.drop (oo + (a.eval x).cells.size)).toArray) n (some b') :=
          Turn.at hob (grownBy_setRow _ _ _) (fun b hb => by cases hb; rw [h3]; rfl)
        refine ⟨.skip, _, _, _, ρ, undef, ?_, .inr ⟨rfl, rfl⟩, hk, h.turn T (fun ob hob2 => ?_), trivial⟩
        . unfold execOp
          rw [e]
          simp only [Instr.storeAt, Instr.sureAddr, h2, Sem.run_bind, Sem.run_pure, Result.andThen_ok]
          rw [run_storeVar hi h4 (.inl rfl) (by omega) (by simp; omega) (cells_one hl hx)]
          rfl
        . have hnl := (List.getElem?_eq_some_iff.1 hob).1
          rw [List.getElem?_set_self (by simpa using hnl)] at hob2
          cases hob2
          refine ⟨b', _, h3, setRow_heap w b' _ _ ty (0, 0) h4, ?_⟩
          refine rels_append (rels_append (rels_take oo (SV.rels.le T.le h5)) (SV.rels.le T.le hr)) ?_
          have e9 : vs.drop (oo + (a.eval x).cells.size) = vs.drop (oo + z) := by rw [hlen, hc.1]
          have h10 := rels_drop (oo + z) (SV.rels.le T.le h5)
          rwa [← e9] at h10
      . exact hk.elim
    . exact hk.elim
  . rename_i n k i off z l hz hl
    obtain ⟨inf, hi, hsz, _⟩ := hE.sz hz
    split at hk
    . rename_i e0 k0 xs kt hob hkt
      split at hk
      . rename_i hh
        subst hh
        split at hk
        . rename_i hc
          obtain ⟨rfl, rfl⟩ := hc
          split at hk
          . rename_i y hy
            rw [castT_rfl] at hk
            obtain ⟨_, hszk, _⟩ := hE.k hkt
            have hzk : inf.size = kt.sz := by rw [hz] at hszk; cases hszk; exact hsz
            obtain ⟨hn, g, m, cap, h1, hlt, h2⟩ := ha
            simp only at h1
            obtain ⟨inner, ho, hreps⟩ := h.h.obj n _ hob
            simp only at ho hreps
            rw [h1] at ho
            have hol := ho.form.1
            obtain ⟨hm, cur, e1', fz, h4, hz', h5, h6, h7, h8, hset⟩ := ho.set
            subst hm
            have hr := cells_rel hl hx
            have hy2 := unleaf_all hy hr
            have hvl : (a.eval x).cells.size = kt.sz := by simpa using hy2.length
            have hle : i * kt.sz + kt.sz ≤ xs.length * kt.sz := by
              have := Nat.mul_le_mul_right kt.sz (show i + 1 ≤ xs.length by omega)
              rw [Nat.add_mul, Nat.one_mul] at this
              exact this
            have hle2 : xs.length * kt.sz ≤ cur.size := by rw [h7]; exact Nat.mul_le_mul_right _ h5
            have T : Turn B ρ ρ st.hp (st.hp.set n (some (.row e0 kt (xs.set i y)))) w (w.setRow g (cur.toList.take (i * kt.sz) ++ (a.eval x).cells.toList ++ cur.toList.drop (i * kt.sz + (a.eval x).cells.size)).toArray) n (some g) :=
              Turn.at hob (grownBy_setRow _ _ _) (fun b hb => by cases hb; rw [h1]; rfl)
            refine ⟨.skip, _, _, _, ρ, undef, ?_, .inr ⟨rfl, rfl⟩, hk, h.turn T (fun ob hob2 => ?_), trivial⟩
            . unfold execOp
              rw [e]
              simp only [Instr.storeAt, Instr.sureAddr, h2, Sem.run_bind, Sem.run_pure, Result.andThen_ok, addr_add, Nat.zero_add, Nat.add_zero]
              rw [run_storeVar hi h4 hz' (by omega) (by omega) (cells_one hl hx)]
              rfl
            . have hnl := (List.getElem?_eq_some_iff.1 hob).1
              rw [List.getElem?_set_self (by simpa using hnl)] at hob2
              cases hob2
              have hAl : xs.length * kt.sz ≤ cur.toList.length := by simpa using hle2
              have hset2 := hset (cur.toList.take (i * kt.sz) ++ (a.eval x).cells.toList ++ cur.toList.drop (i * kt.sz + (a.eval x).cells.size)).toArray (by simp; omega)
              refine ⟨(cur.toList.take (i * kt.sz) ++ (a.eval x).cells.toList ++ cur.toList.drop (i * kt.sz + (a.eval x).cells.size)).take (xs.length * kt.sz), by rw [h1, List.length_set]; exact hset2, fun j y' hy' => ?_⟩
              . have hj : j < xs.length := by
                  have := (List.getElem?_eq_some_iff.1 hy').1
                  simpa using this
                have seg : (((cur.toList.take (i * kt.sz) ++ (a.eval x).cells.toList ++ cur.toList.drop (i * kt.sz + (a.eval x).cells.size)).take (xs.length * kt.sz)).drop (j * kt.sz)).take kt.sz = if j = i then (a.eval x).cells.toList else ((cur.toList.take (xs.length * kt.sz)).drop (j * kt.sz)).take kt.sz := by
                  rw [hvl]
                  exact splice_seg cur.toList (a.eval x).cells.toList i j kt.sz xs.length (by simpa using hvl) hAl (by omega) hj
                rw [seg]
                by_cases hji : j = i
                . subst hji
                  rw [List.getElem?_set_self hj] at hy'
                  cases hy'
                  rw [if_pos rfl]
                  exact hy2.step T.le.size T.le.same T.le.F
                . rw [List.getElem?_set_ne (Ne.symm hji)] at hy'
                  rw [if_neg hji, h8]
                  exact (hreps j y' hy').step T.le.size T.le.same T.le.F
          . exact hk.elim
        . exact hk.elim
      . unfold St.storePart at hk
        split at hk
        . rename_i hc
          obtain ⟨hc, hoff, hlz⟩ := hc
          subst hc
          split at hk
          . rename_i y hy
            obtain ⟨hn, g, m, cap, h1, hlt, h2⟩ := ha
            simp only at h1
            obtain ⟨inner, ho, hreps⟩ := h.h.obj n _ hob
            simp only at ho hreps
            rw [h1] at ho
            obtain ⟨hm, cur, e1', fz, h4, hz', h5, h6, h7, h8, hset⟩ := ho.set
            subst hm
            have hr := cells_rel hl hx
            have hlen := rels_length hr
            simp only [Array.length_toList] at hlen
            have hle : i * k.sz + k.sz ≤ xs.length * k.sz := by
              have := Nat.mul_le_mul_right k.sz (show i + 1 ≤ xs.length by omega)
              rw [Nat.add_mul, Nat.one_mul] at this
              exact this
            have hle2 : xs.length * k.sz ≤ cur.size := by rw [h7]; exact Nat.mul_le_mul_right _ h5
            have hzi : (a.eval x).cells.size = inf.size := by omega
            have T : Turn B ρ ρ st.hp (st.hp.set n (some (.row e0 k (xs.set i y)))) w (w.setRow g (cur.toList.take (i * k.sz + off) ++ (a.eval x).cells.toList ++ cur.toList.drop (i * k.sz + off + (a.eval x).cells.size)).toArray) n (some g) :=
              Turn.at hob (grownBy_setRow _ _ _) (fun b hb => by cases hb; rw [h1]; rfl)
            refine ⟨.skip, _, _, _, ρ, undef, ?_, .inr ⟨rfl, rfl⟩, hk, h.turn T (fun ob hob2 => ?_), trivial⟩
            . unfold execOp
              rw [e]
              simp only [Instr.storeAt, Instr.sureAddr, h2, Sem.run_bind, Sem.run_pure, Result.andThen_ok, addr_add, Nat.zero_add]
              rw [run_storeVar hi h4 hz' hzi (by omega) (cells_one hl hx)]
              rfl
            . have hnl := (List.getElem?_eq_some_iff.1 hob).1
              rw [List.getElem?_set_self (by simpa using hnl)] at hob2
              cases hob2
              have hAl : xs.length * k.sz ≤ cur.toList.length := by simpa using hle2
              have hVl : (a.eval x).cells.toList.length = l.length := by simpa using hlen
              have hset2 := hset (cur.toList.take (i * k.sz + off) ++ (a.eval x).cells.toList ++ cur.toList.drop (i * k.sz + off + (a.eval x).cells.size)).toArray (by simp; omega)
              refine ⟨(cur.toList.take (i * k.sz + off) ++ (a.eval x).cells.toList ++ cur.toList.drop (i * k.sz + off + (a.eval x).cells.size)).take (xs.length * k.sz), by rw [h1, List.length_set]; exact hset2, fun j y' hy' => ?_⟩
              have hj : j < xs.length := by
                have := (List.getElem?_eq_some_iff.1 hy').1
                simpa using this
              have seg := splice_part cur.toList (a.eval x).cells.toList i j k.sz off xs.length hAl (by omega) hj (by omega)
              have hVs : (a.eval x).cells.toList.length = (a.eval x).cells.size := Array.length_toList ..
              rw [hVs] at seg
              rw [seg]
              by_cases hji : j = i
              . subst hji
                rw [List.getElem?_set_self hj] at hy'
                cases hy'
                rw [if_pos rfl, h8]
                have hx0 := hreps j _ (List.getElem?_eq_getElem hj)
                have hlv := leaves_rel (C := cx B ρ st.hp w) hx0
                have e0' : xs.getD j k.dft = xs[j] := by rw [List.getD_eq_getElem?_getD, List.getElem?_eq_getElem hj]; rfl
                rw [e0', ← hlen] at hy
                have hy2 := unleaf_all hy (rels_append (rels_append (rels_take off hlv) hr) (rels_drop (off + (a.eval x).cells.size) hlv))
                exact hy2.step T.le.size T.le.same T.le.F
              . rw [List.getElem?_set_ne (Ne.symm hji)] at hy'
                rw [if_neg hji, h8]
                exact (hreps j y' hy').step T.le.size T.le.same T.le.F
          . exact hk.elim
        . exact hk.elim
    . exact hk.elim
  . exact hk.elim
end
end Go.Vc
end
section
namespace Go.Vc
open Go.RowKit
def St.make (E : Ty) (st : St) (t : Nat) (l c : SV) (kv : SV → St → Prop) : Prop :=
  match E.d t, l, c with
  | .sl e, .dat (.int _) n, .dat (.int _) m => match E.k e with
    | some k => (0 ≤ n ∧ n ≤ m) ∧ (E.bytes e : Int) * m ≤ 281474976710656 ∧ m ≤ 9223372036854775807 ∧
        kv (.own st.hp.length) { st with hp := st.hp ++ [some (.row e k (List.replicate n.toNat k.dft))] }
    | none => False
  | _, _, _ => False
theorem rep_zero {w : World} {F : Nat → Prop} (k : Kd) : Rep w F k k.dft k.zero := rep_zero0 k
theorem made_seg {cells : Array Value} {sz i N : Nat} (hc : cells.size = sz) (hi : (i + 1) * sz ≤ N) : ((madeCells cells N).toList.drop (i * sz)).take sz = cells.toList := by
  apply List.ext_getElem?
  intro j
  rw [List.getElem?_take]
  split
  . rename_i hj
    rw [List.getElem?_drop]
    have h1 : i * sz + j < N := by rw [Nat.add_mul] at hi; omega
    have h2 : (i * sz + j) % cells.size = j := by rw [hc, Nat.mul_comm, Nat.mul_add_mod, Nat.mod_eq_of_lt hj]
    have hj2 : j < cells.size := by omega
    unfold madeCells
    simp [h1, h2, hj2]
  . rename_i hj
    rw [List.getElem?_eq_none (by simp; omega)]
section
variable {E : Ty} {B : Base} {ρ : Nat → Value} {st : St} {a : Act} {fs : List Act} {w : World} {kv : SV → St → Prop}
theorem make_core (hE : E.Ok) (h : StRel B ρ st a fs w) {t e : Nat} {l c : Operand} {o : Oper} (ho : o.op = .makeSlice t l c) (hd : E.d t = .sl e) {k : Kd} (hk : E.k e = some k) {kl kc : IntKind} {n m : Int}
    (hl : a.eval l = .int kl n) (hc : a.eval c = .int kc m) (hnm : 0 ≤ n ∧ n ≤ m) (hby : (E.bytes e : Int) * m ≤ 281474976710656) (hm : m ≤ 9223372036854775807)
    (hkv : kv (.own st.hp.length) { st with hp := st.hp ++ [some (.row e k (List.replicate n.toNat k.dft))] }) : Yield E B o a fs w kv := by
  have hdt := hE.d t
  rw [hd] at hdt
  obtain ⟨_, _, inf, z, hi, hsz, hb, hz, hzc⟩ := hE.k hk
  have hzs : z.cells.size = k.sz := by
    have := congrArg List.length hzc
    rw [zero_len] at this
    simpa using this
  have hrun := run_makeSlice w t e inf z hdt hi hz kl kc n m hnm.1 hnm.2
  rw [hb] at hrun
  have hrun2 := run_make (P := E.P) w t e inf z hdt hi hz kl kc n m hnm.1 hnm.2 (by rw [hb]; exact hby) hm
  have hnm2 : n.toNat ≤ m.toNat := by omega
  have T : Turn B ρ (upd ρ st.hp.length (.slice (some ⟨w.heap.size, 0, none⟩) n.toNat m.toNat)) st.hp (st.hp ++ [some (.row e k (List.replicate n.toNat k.dft))]) w
      (w.alloc (.cells (madeCells z.cells (m.toNat * inf.size)) e)) st.hp.length none :=
    Turn.new (World.grownBy_alloc w _ none) (fun b hb => by cases hb; exact Nat.le_refl _)
  refine ⟨_, _, _, _, _, _, ?_, .inl rfl, hkv, h.turn T (fun ob hob => ?_), ⟨by simp, (upd_same _ _ _).symm, .inl ⟨_, _, _, rfl⟩⟩⟩
  . unfold execOp
    rw [ho]
    simp only [hl, hc, Sem.run_bind, hrun2, Result.andThen_ok, Sem.run_pure]
  . rw [getElem?_snoc] at hob
    cases hob
    rw [upd_same]
    have hh : (w.alloc (.cells (madeCells z.cells (m.toNat * inf.size)) e)).heap[w.heap.size]? = some (.cells (madeCells z.cells (m.toNat * inf.size)) e (0, 0)) := heap_alloc_new w _
    have hcur : (madeCells z.cells (m.toNat * inf.size)).size = m.toNat * k.sz := by rw [size_madeCells, hsz]
    have hle : n.toNat * k.sz ≤ m.toNat * k.sz := Nat.mul_le_mul_right _ hnm2
    refine ⟨(madeCells z.cells (m.toNat * inf.size)).toList.take (n.toNat * k.sz), .inl ⟨by rw [List.length_take, List.length_replicate, Array.length_toList, hcur]; omega, .inr ⟨_, m.toNat, _, by simp, Nat.zero_le _, hh, by simpa using hnm2, by simp only [maxLen]; omega, hcur, by simp⟩⟩, fun i x hx => ?_⟩
    have hx2 := List.getElem?_eq_some_iff.1 hx
    obtain ⟨hi', hx3⟩ := hx2
    rw [List.length_replicate] at hi'
    simp only [List.getElem_replicate] at hx3
    subst hx3
    have hseg : (((madeCells z.cells (m.toNat * inf.size)).toList.take (n.toNat * k.sz)).drop (i * k.sz)).take k.sz = k.zero := by
      have h1 : (i + 1) * k.sz ≤ n.toNat * k.sz := Nat.mul_le_mul_right _ hi'
      rw [List.drop_take, List.take_take, Nat.min_eq_left (by rw [Nat.add_mul] at h1; omega), ← hzc]
      exact made_seg hzs (by rw [hsz]; omega)
    rw [hseg]
    exact rep_zero k
theorem make_sound (hE : E.Ok) (h : StRel B ρ st a fs w) {t : Nat} {l c : Operand} {o : Oper} (ho : o.op = .makeSlice t l c) (hk : st.make E t (st.ev l) (st.ev c) kv) : Yield E B o a fs w kv := by
  have hl := ev_rel h l
  have hc := ev_rel h c
  unfold St.make at hk
  split at hk
  . rename_i e kl n kc m e1 e2 e3
    rw [e2] at hl
    rw [e3] at hc
    split at hk
    . rename_i k e4
      exact make_core hE h ho e1 e4 (VRep_int.1 hl).1 (VRep_int.1 hc).1 hk.1 hk.2.1 hk.2.2.1 hk.2.2.2
    . exact hk.elim
  . exact hk.elim
end
end Go.Vc
end
section
namespace Go.Vc
open Go.RowKit
theorem run_append_str_at {P : Program} (w : World) (base : Nat) (t u ty e : TypeId) (i : TypeInfo) (ht : P.underlying t = some (.slice e)) (hu : P.underlying u = some .string) (hi : P.info? e = some i) (hz : i.zero = some (.int .u8 0))
    (hsize : i.size = 1) (hby : i.bytes = 1)
    (v : Value) (n : Nat) (xs : List Value) (hown : w.ownsRow base e 1 v n xs) (s : ByteArray)
    (h63 : n + s.size ≤ maxLen) (hbytes : n + s.size ≤ 140737488355328) (hbase : base ≤ w.heap.size) :
    ∃ v' w', (Builtin.append_ #[t, u] ty #[v, .string s]).run P w = .ok v' w' ∧ w'.ownsRow base e 1 v' (n + s.size) (xs ++ Lib.strCells s) ∧ w.grownBy w' v.ownBlock ∧
      (v'.ownBlock = v.ownBlock ∨ v'.ownBlock = some w.heap.size) := by
  obtain ⟨v', w', hr, h1, h2, _⟩ := Lib.run_append_own_string (P := P) w base t u ty e i ht hu hi hz hsize hby v n xs hown s h63 hbytes hbase
  refine ⟨v', w', hr, h1, h2, ?_⟩
  have hsmall : n + s.size ≤ 9223372036854775807 := by simp only [maxLen] at h63; omega
  have hxl : xs.length = n := by simpa using hown.1
  have key : ∀ {v2 : Value} {w2 : World}, (Builtin.append_ #[t, u] ty #[v, .string s]).run P w = .ok v2 w2 → v' = v2 := fun h => by
    rw [hr] at h; cases h; rfl
  rcases hown.2 with ⟨rfl, rfl⟩ | ⟨g, cap, cur, rfl, hbg, hg, hnc, hcm, hcs, htake⟩
  . by_cases hm : s.size = 0
    . have hf := Lib.run_firstCells_string (P := P) w 1 s
      rw [hm] at hf
      have := key (v2 := .slice none 0 0) (w2 := w) (by simp [Builtin.append_, run_underlying ht, run_underlying hu, sizeOf, typeInfo, hi, hsize, Builtin.lenOf, hm, hf])
      rw [this]
      exact .inl rfl
    . have hr2 := run_append_nil_string (P := P) w t u ty e i (.int .u8 0) ht hu hi hz s (by omega) (by omega) (by rw [hby]; omega)
      rw [key hr2]
      exact .inr rfl
  . by_cases hroom : n + s.size ≤ cap
    . have hcs' : cur.size = cap := by simpa using hcs
      rw [key (Lib.run_append_room_string (P := P) w t u ty e i ht hu hi hsize g n cap cur hg s hroom (by omega))]
      exact .inl rfl
    . have holds : ∀ j u, xs[j]? = some u → w.cell? ((⟨g, 0, none⟩ : Addr).add j) = some u := hown.cells (g := g) rfl
      rw [key (Lib.run_append_grow_string (P := P) w t u ty e i (.int .u8 0) ht hu hi hz ⟨g, 0, none⟩ n cap xs (by rw [hsize]; simpa using hxl) holds s (by omega) (by omega) (by rw [hby]; exact growslice_fits (by omega) (by omega)))]
      exact .inr rfl
def St.appStr (E : Ty) (st : St) (t t' : Nat) (s x : SV) (kv : SV → St → Prop) : Prop :=
  match E.d t, E.d t', x with
  | .sl e, .str, .dat .str l => match E.k e, st.base e (.int .u8) s with
    | some (.int .u8), some (obs, n, xs) => conj obs <| (E.P.info? e).map (·.zero) = some (some (.int .u8 0)) ∧ E.bytes e = 1 ∧ xs.length + l.length ≤ 140737488355328 ∧
        kv (.own st.hp.length) { st with hp := killOpt st.hp n ++ [some (.row e (.int .u8) (xs ++ l))] }
    | _, _ => False
  | _, _, _ => False
section
variable {E : Ty} {B : Base} {ρ : Nat → Value} {st : St} {a : Act} {fs : List Act} {w : World} {kv : SV → St → Prop} {C : Cx}
theorem appStr_sound (hE : E.Ok) (h : StRel B ρ st a fs w) {t t' : Nat} {s x : Operand} {o : Oper} {c : Call} (e : o.op = .call c) (hc : c.callee = .builtin .append) (ha : c.args = #[s, x]) (hta : c.argTypes = #[t, t'])
    (hk : st.appStr E t t' (st.ev s) (st.ev x) kv) : Yield E B o a fs w kv := by
  have hd := hE.d t
  have hd' := hE.d t'
  have hx := ev_rel h x
  unfold St.appStr at hk
  split at hk
  . rename_i e' l e1 e2 e3
    rw [e1] at hd
    rw [e2] at hd'
    rw [e3] at hx
    obtain ⟨s0, hs0, hl, hsz0⟩ := VRep_str.1 hx
    split at hk
    . rename_i obs n xs e4 hb
      obtain ⟨hobs, hz0, hby, hlen, hkv⟩ := conj_all hk
      obtain ⟨_, _, inf, z, hi, hsz, hby', hz, hzc⟩ := hE.k e4
      have hz' : inf.zero = some (.int .u8 0) := by
        rw [hi] at hz0
        simpa using hz0
      obtain ⟨inner, hown, hreps, hblk, hdead⟩ := base_rel h hb hobs
      have hll : l.length = s0.size := by rw [← hl, bs_length]
      obtain ⟨v', w', hr, h1, h2, h3⟩ := run_append_str_at (P := E.P) w 0 t t' o.type e' inf hd hd' hi hz' hsz (by rw [hby', hby]) (a.eval s) xs.length inner hown s0 (by simp only [maxLen]; omega) (by omega) (Nat.zero_le _)
      refine row_grown (k := .int .u8) (ys := (show List (Kd.T (.int .u8)) from l)) h hown.1 hreps hblk hdead ?_ (by rw [hll]; exact h1) h2 h3 (fun i y hy => ?_) hkv
      . unfold execOp
        rw [e]
        simp only [resolve, hc, ha, hta, Sem.run_bind, Sem.run_pure, Result.andThen_ok, invoke, builtin, List.map_toArray, List.map_cons, List.map_nil, hs0, hr]
      . have hi' := (List.getElem?_eq_some_iff.1 hy).1
        have hrange := bs_range s0 y (by rw [hl]; exact List.mem_iff_getElem?.2 ⟨i, hy⟩)
        have hcell : (Lib.strCells s0)[i]? = some (.int .u8 y) := by
          rw [← hl] at hy
          simp only [bs, List.getElem?_map] at hy
          obtain ⟨b, hb1, hb2⟩ := Option.map_eq_some_iff.1 hy
          simp only [Lib.strCells, List.getElem?_map, hb1, Option.map_some]
          rw [hb2]
        show _ = [Value.int .u8 y] ∧ InR .u8 y
        refine ⟨?_, ?_⟩
        . have hj := (List.getElem?_eq_some_iff.1 hcell).1
          show ((Lib.strCells s0).drop (i * 1)).take 1 = _
          rw [Nat.mul_one, List.drop_eq_getElem_cons hj, (List.getElem?_eq_some_iff.1 hcell).2]
          rfl
        . simp [InR, IntKind.min, IntKind.max, IntKind.signed, IntKind.bits]; omega
    . exact hk.elim
  . exact hk.elim
end
end Go.Vc
end
section
namespace Go.Vc
open Go.RowKit
theorem run_append_zeros_nil {P : Program} (w : World) (t u ty e : TypeId) (ku : IntKind) (i : TypeInfo) (z : Value) (ht : P.underlying t = some (.slice e)) (hu : P.underlying u = some (.int ku)) (hi : P.info? e = some i) (hz : i.zero = some z)
    (k : IntKind) (n : Int) (h0 : 0 < n) (hsz : 0 < i.size) (hn : n ≤ 1000000000) (hb : i.bytes ≤ 1000) :
    ∃ c, n.toNat ≤ c ∧ c ≤ 9223372036854775807 ∧ (Builtin.append_ #[t, u] ty #[.slice none 0 0, .int k n]).run P w =
      .ok (.slice (some ⟨w.heap.size, 0, none⟩) n.toNat c) (w.drew.alloc (.cells (Builtin.zeroCells z.cells n.toNat ++ Builtin.zeroCells z.cells (c - n.toNat)) e)) := by
  refine ⟨grownCap w n.toNat 0 e, grownCap_ge _ _ _ _, ?_, ?_⟩
  . have := grownCap_le_maxLen w n.toNat 0 e (by simp only [maxLen]; omega)
    simpa [maxLen] using this
  . have w0 : IntKind.i64.wrap n = n := by rw [IntKind.wrap_i64]; omega
    have h1 : ¬ n < 0 := by omega
    have h2 : ¬ (281474976710656 < n * (i.bytes : Int)) := by
      have : n * (i.bytes : Int) ≤ 1000000000 * 1000 := Int.mul_le_mul hn (by omega) (by omega) (by omega)
      omega
    have h3 : ¬ n.toNat * i.size = 0 := by
      have : 0 < n.toNat * i.size := Nat.mul_pos (by omega) hsz
      omega
    have h4 : ¬ n.toNat ≤ 0 := by omega
    have h5 : ¬ (9223372036854775807 < (n.toNat : Int)) := by omega
    simp [Builtin.append_, run_underlying ht, run_underlying hu, sizeOf, typeInfo, zeroValue, hi, hz, asInt, asIntOf, w0, h1, h2, h3, h4, h5, Question.forced, newRow, grownCap]
    have h6 : ¬ n ≤ 0 := by omega
    have h7 : ¬ (9223372036854775807 < max n 0) := by omega
    have h8 : ¬ (281474976710656 < Builtin.nextslicecap n.toNat 0 * i.bytes) := by
      have : n.toNat * i.bytes ≤ 1000000000 * 1000 := Nat.mul_le_mul (by omega) hb
      have := growslice_fits (need := n.toNat) (old := 0) (bytes := i.bytes) (by omega) (by omega)
      omega
    rw [if_neg h6, if_neg h7, if_neg h8]
    simp [Builtin.firstCells, Result.andThen]
def St.appMk (E : Ty) (st : St) (t t' : Nat) (s x : SV) (kv : SV → St → Prop) : Prop :=
  match E.d t, E.d t', s, x with
  | .sl e, .int _, .cst c, .dat (.int _) n => match E.k e with
    | some k => if nilSlice c ∧ 0 < k.sz ∧ E.bytes e ≤ 1000 then
        0 < n ∧ n ≤ 1000000000 ∧ kv (.own st.hp.length) { st with hp := st.hp ++ [some (.row e k (List.replicate n.toNat k.dft))] }
      else False
    | none => False
  | _, _, _, _ => False
theorem zeros_seg {z : Array Value} {sz i n m : Nat} (hz : z.size = sz) (hi : i < n) : ((Builtin.zeroCells z n ++ Builtin.zeroCells z m).toList.drop (i * sz)).take sz = z.toList := by
  have h1 : (i + 1) * sz ≤ n * z.size := by rw [hz]; exact Nat.mul_le_mul_right _ hi
  have h2 := made_seg hz h1
  have e : Builtin.zeroCells z n = madeCells z (n * z.size) := rfl
  rw [Array.toList_append, e]
  have hl : (madeCells z (n * z.size)).toList.length = n * z.size := by rw [Array.length_toList, size_madeCells]
  rw [List.drop_append_of_le_length (by rw [hl]; rw [Nat.add_mul] at h1; omega), List.take_append_of_le_length (by rw [List.length_drop, hl]; rw [Nat.add_mul] at h1; omega)]
  exact h2
section
variable {E : Ty} {B : Base} {ρ : Nat → Value} {st : St} {a : Act} {fs : List Act} {w : World} {kv : SV → St → Prop}
theorem appMk_sound (hE : E.Ok) (h : StRel B ρ st a fs w) {t t' : Nat} {s x : Operand} {o : Oper} {c : Call} (e : o.op = .call c) (hc : c.callee = .builtin .append) (ha : c.args = #[s, x]) (hta : c.argTypes = #[t, t'])
    (hk : st.appMk E t t' (st.ev s) (st.ev x) kv) : Yield E B o a fs w kv := by
  have hd := hE.d t
  have hd' := hE.d t'
  have hx := ev_rel h x
  have hs := ev_rel h s
  unfold St.appMk at hk
  split at hk
  . rename_i el ku c0 kx n e1 e2 e3 e4
    rw [e1] at hd
    rw [e2] at hd'
    rw [e4] at hx
    rw [e3] at hs
    obtain ⟨hxv, _⟩ := VRep_int.1 hx
    split at hk
    . rename_i k hkk
      split at hk
      . rename_i hcond
        obtain ⟨hn, hsz0, hby⟩ := hcond
        obtain ⟨h0, h1, hkv⟩ := hk
        obtain ⟨_, _, inf, z, hi, hsz, hb, hz, hzc⟩ := hE.k hkk
        have hs : a.eval s = c0 := hs
        rw [nilSlice_eq hn] at hs
        have hzs : z.cells.size = k.sz := by
          have := congrArg List.length hzc
          rw [zero_len] at this
          simpa using this
        obtain ⟨cap, hc1, hc2, hrun⟩ := run_append_zeros_nil (P := E.P) w t t' o.type el ku inf z hd hd' hi hz kx n h0 (by omega) h1 (by omega)
        have T : Turn B ρ (upd ρ st.hp.length (.slice (some ⟨w.heap.size, 0, none⟩) n.toNat cap)) st.hp (st.hp ++ [some (.row el k (List.replicate n.toNat k.dft))]) w
            (w.drew.alloc (.cells (Builtin.zeroCells z.cells n.toNat ++ Builtin.zeroCells z.cells (cap - n.toNat)) el)) st.hp.length none :=
          Turn.new ⟨rfl, rfl, rfl, by simp, fun k hk _ => Below.heap_alloc w.drew _ k hk⟩ (fun b hb => by cases hb; exact Nat.le_refl _)
        refine ⟨_, _, _, _, _, _, ?_, .inl rfl, hkv, h.turn T (fun ob hob => ?_), ⟨by simp, (upd_same _ _ _).symm, .inl ⟨_, _, _, rfl⟩⟩⟩
        . unfold execOp
          rw [e]
          simp only [resolve, hc, ha, hta, Sem.run_bind, Sem.run_pure, Result.andThen_ok, invoke, builtin, List.map_toArray, List.map_cons, List.map_nil, hs, hxv, hrun]
        . rw [getElem?_snoc] at hob
          cases hob
          rw [upd_same]
          have hh : (w.drew.alloc (.cells (Builtin.zeroCells z.cells n.toNat ++ Builtin.zeroCells z.cells (cap - n.toNat)) el)).heap[w.heap.size]? = some (.cells (Builtin.zeroCells z.cells n.toNat ++ Builtin.zeroCells z.cells (cap - n.toNat)) el (0, 0)) := heap_alloc_new w.drew _
          have hcur : (Builtin.zeroCells z.cells n.toNat ++ Builtin.zeroCells z.cells (cap - n.toNat)).size = cap * k.sz := by
            rw [Array.size_append, size_zeroCells, size_zeroCells, hzs, ← Nat.add_mul]; congr 1; omega
          refine ⟨(Builtin.zeroCells z.cells n.toNat ++ Builtin.zeroCells z.cells (cap - n.toNat)).toList.take (n.toNat * k.sz), .inl ⟨?_, .inr ⟨_, cap, _, by simp, Nat.zero_le _, hh, by simpa using hc1, by simp only [maxLen]; omega, hcur, by simp⟩⟩, fun i x hx => ?_⟩
          . rw [List.length_take, List.length_replicate, Array.length_toList, hcur]
            have : n.toNat * k.sz ≤ cap * k.sz := Nat.mul_le_mul_right _ hc1
            omega
          . obtain ⟨hi', hx3⟩ := List.getElem?_eq_some_iff.1 hx
            rw [List.length_replicate] at hi'
            simp only [List.getElem_replicate] at hx3
            subst hx3
            have h2 : (i + 1) * k.sz ≤ n.toNat * k.sz := Nat.mul_le_mul_right _ hi'
            rw [List.drop_take, List.take_take, Nat.min_eq_left (by rw [Nat.add_mul] at h2; omega), zeros_seg hzs hi', hzc]
            exact rep_zero k
      . exact hk.elim
    . exact hk.elim
  . exact hk.elim
end
end Go.Vc
end
section
namespace Go.Vc
open Go.RowKit
def St.mkMap (E : Ty) (st : St) (t : Nat) (kv : SV → St → Prop) : Prop :=
  match E.d t with
  | .map _ e => match E.k e with
    | some k => kv (.own st.hp.length) { st with hp := st.hp ++ [some (.mapo k [])] }
    | none => False
  | _ => False
def St.insertM (E : Ty) (st : St) (t : Nat) (m : SV) (key x : SV) (kv : SV → St → Prop) : Prop :=
  match E.d t, m, key with
  | .map kt _, .own n, .dat (.int .i64) i => match E.d kt, st.hp[n]? with
    | .int .i64, some (some (.mapo k xs)) => match x.cells with
      | some l => if x.isAgg = k.isAgg then match unleaf k l with
        | some (y, []) => lookB i xs = false ∧ kv .junk { st with hp := st.hp.set n (some (.mapo k (xs ++ [(i, y)]))) }
        | _ => False
        else False
      | none => False
    | _, _ => False
  | _, _, _ => False
section
variable {E : Ty} {B : Base} {ρ : Nat → Value} {st : St} {a : Act} {fs : List Act} {w : World} {kv : SV → St → Prop} {C : Cx}
theorem mkMap_sound (h : StRel B ρ st a fs w) {t : Nat} {o : Oper} (e : o.op = .makeMap t none) (hk : st.mkMap E t kv) : Yield E B o a fs w kv := by
  unfold St.mkMap at hk
  split at hk
  . split at hk
    . rename_i k _
      have T : Turn B ρ (upd ρ st.hp.length (.map (some w.heap.size))) st.hp (st.hp ++ [some (.mapo k [])]) w (w.alloc (.map #[] 0)) st.hp.length none :=
        Turn.new (World.grownBy_alloc w _ none) (fun b hb => by cases hb; exact Nat.le_refl _)
      refine ⟨_, _, _, _, _, _, ?_, .inl rfl, hk, h.turn T (fun ob hob => ?_), ⟨by simp, (upd_same _ _ _).symm, .inr ⟨_, rfl⟩⟩⟩
      . unfold execOp
        rw [e]
        simp only [Option.map_none, Instr.makeMap, Sem.run_bind, Sem.run_pure, Result.andThen_ok, run_newObj_alloc]
      . rw [getElem?_snoc] at hob
        cases hob
        rw [upd_same]
        exact ⟨_, #[], 0, rfl, heap_alloc_new w _, rfl, by simp, fun e he => by cases he⟩
    . exact hk.elim
  . exact hk.elim
theorem ent_snoc {α : Type} {rep : α → List Value → Prop} {agg : Bool} {i : Int} {y : α} {ent : MapEntry} (h1 : ent.key = .int .i64 i) (h2 : InR .i64 i) (h3 : ∃ cs, rep y cs ∧ if agg then ent.val = .agg cs.toArray else cs = [ent.val]) :
    ∀ {xs : List (Int × α)} {es : List MapEntry}, EntL rep agg xs es → EntL rep agg (xs ++ [(i, y)]) (es ++ [ent])
  | [], es, h => by
    have h : es = [] := h
    subst h
    exact ⟨ent, [], rfl, h1, h2, h3, rfl⟩
  | x :: xs, es, h => by
    obtain ⟨e, r, rfl, h4, h5, h6, h7⟩ := h
    exact ⟨e, r ++ [ent], rfl, h4, h5, h6, ent_snoc h1 h2 h3 h7⟩
theorem insertM_sound (hE : E.Ok) (h : StRel B ρ st a fs w) {t : Nat} {m key x : Operand} {o : Oper} (e : o.op = .insert t m key x) (hk : st.insertM E t (st.ev m) (st.ev key) (st.ev x) kv) : Yield E B o a fs w kv := by
  have hd := hE.d t
  have hm := ev_rel h m
  have hky := ev_rel h key
  have hx := ev_rel h x
  unfold St.insertM at hk
  split at hk
  . rename_i kt et n i e1 e2 e3
    rw [e1] at hd
    rw [e2] at hm
    rw [e3] at hky
    have hd : E.P.underlying t = some (.map kt et) := hd
    split at hk
    . rename_i k xs e4 hob
      have hkt := hE.d kt
      rw [e4] at hkt
      have hkt : E.P.underlying kt = some (.int .i64) := hkt
      split at hk
      . rename_i l hl
        split at hk
        . rename_i hag
          split at hk
          . rename_i y hy
            obtain ⟨hnew, hk⟩ := hk
            obtain ⟨hkv, hin⟩ := VRep_int.1 hky
            obtain ⟨r, es, clock, h1, h2, h3, h4, h5⟩ := h.h.obj n _ hob
            have h2 : w.heap[r]? = some (.map es clock) := h2
            have hmv : a.eval m = .map (some r) := hm.2.1.trans h1
            have hrep := unleaf_all hy (cells_rel hl hx)
            have hval : ∃ cs, Rep w (Forb B ρ st.hp) k y cs ∧ if k.isAgg then a.eval x = .agg cs.toArray else cs = [a.eval x] := by
              refine ⟨_, hrep, ?_⟩
              cases hb : k.isAgg with
              | true =>
                rw [hb] at hag
                obtain ⟨cs, hcs⟩ := isAgg_rel hag hx
                rw [hcs]; rfl
              | false =>
                have hl1 := hrep.length
                rw [sz_one hb] at hl1
                simp only [Bool.false_eq_true, if_false]
                have hone := cells_one hl hx
                cases hv : a.eval x with
                | agg cs =>
                  rw [hv] at hl1 hone
                  rw [hb] at hag
                  exfalso
                  cases hsv : st.ev x <;> rw [hsv] at hx hag hl <;> simp only [SV.isAgg, Bool.true_eq_false] at hag
                  case dat k0 x0 => obtain ⟨c0, _, h9⟩ := hx; rw [if_neg (by rw [hag]; simp)] at h9; have := (show c0 = [_] from h9); rename_i hrp; have := hrp.one (a.eval x) (by rw [h9]; simp); rw [hv] at this; cases this
                  case cst c =>
                    have hx : a.eval x = c := hx
                    simp only [SV.cells] at hl
                    split at hl
                    . rename_i h9; rw [← hx, hv] at h9; cases h9
                    . cases hl
                  case own => obtain ⟨_, _, ⟨A, m, c, h9⟩ | ⟨r, h9⟩⟩ := hx <;> (rw [hv] at h9; cases h9)
                  case sub => obtain ⟨_, A, m, cap, A', cc, _, h9, _⟩ := hx; rw [hv] at h9; cases h9
                  case ptr => obtain ⟨_, b, _, h9⟩ := hx; rw [hv] at h9; cases h9
                  case rptr => obtain ⟨_, g, m, cap, _, h9, _⟩ := hx; rw [hv] at h9; cases h9
                  case adr => obtain ⟨ad, cs, h9, _⟩ := hx; rw [hv] at h9; cases h9
                  case oel => obtain ⟨_, g, m, cap, _, _, h9⟩ := hx; rw [hv] at h9; cases h9
                  case fn => obtain ⟨vs, h9, _⟩ := hx; rw [hv] at h9; cases h9
                  case ifc => obtain ⟨u, h9, _⟩ := hx; rw [hv] at h9; cases h9
                  case yld => have h9 : a.eval x = _ := hx; rw [hv] at h9; cases h9
                  case aar => obtain ⟨ad, h9, _⟩ := hx; rw [hv] at h9; cases h9
                  all_goals (simp only [SV.cells] at hl; cases hl)
                | _ => rfl
            have hfind : Instr.findNow (.int .i64) (.int .i64 i) es.toList 0 = some none := by
              rcases find_ent (n := i) k.dft 0 h3 with ⟨_, _, h6⟩ | ⟨h6, _⟩
              . exact h6
              . rw [hnew] at h6; cases h6
            have chk : (Instr.checkKey false 10000 kt (.int .i64 i)).run E.P w = .ok () w := by
              show (Instr.checkKey false (9999 + 1) kt (.int .i64 i)).run E.P w = .ok () w
              unfold Instr.checkKey
              simp only [Sem.run_bind, run_underlying hkt, Result.andThen]
              rfl
            have hlt : r < w.heap.size := (Array.getElem?_eq_some_iff.1 h2).1
            have T : Turn B ρ ρ st.hp (st.hp.set n (some (.mapo k (xs ++ [(i, y)])))) w (w.putObj r (.map (es.push { key := .int .i64 i, val := a.eval x, born := clock }) (clock + 1))) n (some r) :=
              Turn.at hob ⟨rfl, rfl, rfl, by simp, fun q _ hq => World.putObj_heap_other (fun e => hq (by rw [e]))⟩ (fun b hb => by cases hb; rw [h1]; rfl)
            refine ⟨.skip, _, _, _, ρ, undef, ?_, .inr ⟨rfl, rfl⟩, hk, h.turn T (fun ob hob2 => ?_), trivial⟩
            . unfold execOp
              rw [e]
              have hset : (setObj r (.map (es.push { key := .int .i64 i, val := a.eval x, born := clock }) (clock + 1))).run E.P w = .ok () (w.putObj r (.map (es.push { key := .int .i64 i, val := a.eval x, born := clock }) (clock + 1))) := by simp [setObj, Sem.run, h2, World.putObj]
              simp only [hmv, hkv, Instr.mapUpdate, Sem.run_bind, run_underlying hd, Result.andThen_ok, MapKept.run_getObj_map h2, chk, MapKept.run_findKey hkt hfind, hset, Sem.run_pure]
            . have hnl := (List.getElem?_eq_some_iff.1 hob).1
              rw [List.getElem?_set_self (by simpa using hnl)] at hob2
              cases hob2
              refine ⟨r, _, _, h1, World.putObj_heap_same hlt, ?_, ?_, fun ent he => ?_⟩
              . rw [Array.toList_push]
                refine ent_snoc rfl hin ?_ (h3.imp fun x _ c hc => hc.step T.le.size T.le.same T.le.F)
                obtain ⟨cs, h6, h7⟩ := hval
                exact ⟨cs, h6.step T.le.size T.le.same T.le.F, h7⟩
              . rw [Array.toList_push, List.map_append, List.nodup_append]
                refine ⟨h4, by simp, fun b hb c hc => ?_⟩
                simp only [List.map_cons, List.map_nil, List.mem_singleton] at hc
                obtain ⟨ent, he, rfl⟩ := List.mem_map.1 hb
                have := h5 ent he
                omega
              . rw [Array.toList_push] at he
                rcases List.mem_append.1 he with he | he
                . have := h5 ent he; omega
                . rw [List.mem_singleton.1 he]; exact Nat.lt_succ_self _
          . exact hk.elim
        . exact hk.elim
      . exact hk.elim
    . exact hk.elim
  . exact hk.elim
end
end Go.Vc
end
section
namespace Go.Vc
open Go.RowKit
abbrev CallSem := List SV → St → (SV → St → Prop) → (SV → St → Prop) → Prop
abbrev DefSem := List SV → St → Option SV → (St → Option SV → Prop) → Prop
structure Env extends Ty where
  fns : Nat → Option CallSem
  keep : List Nat
  seqs : Nat → Option (CallSem → CallSem) := fun _ => none
  dfs : Nat → Option DefSem := fun _ => none
  yld : Option CallSem := none
  own : List Nat := []
  rnd : Bool := false
def CallPost (B : Base) (a : Act) (fs : List Act) (kv kp : SV → St → Prop) : Ending → World → Prop
  | .returned v, w => ∃ s st ρ, kv s st ∧ StRel B ρ st a fs w ∧ s.rel (cx B ρ st.hp w) v
  | .panicked ch, w => ∃ v s st ρ, ch = [{ v := v, recovered := false }] ∧ kp s st ∧ StRel B ρ st a fs w ∧ s.rel (cx B ρ st.hp w) v
  | .outgrown, _ => False
def Goes (P : Program) (f : Nat) (args : Array Value) (w : World) (R : Ending → World → Prop) : Prop :=
  ((callFunc f args).run P w = .ok (.enter f args) w ∧ Calls P f args w R) ∨ ∃ v, (callFunc f args).run P w = .ok (.value v) w ∧ R (.returned v) w
def CallOk (P : Program) (gl : Gl) (f : Nat) (c : CallSem) : Prop :=
  ∀ args st kv kp B ρ a fs w vs, B.gl = gl → c args st kv kp → StRel B ρ st a fs w → SV.rels (cx B ρ st.hp w) args vs → Goes P f vs.toArray w (CallPost B a fs kv kp)
def YieldOk (P : Program) (B : Base) (fs : List Act) (h : CallSem) : Prop :=
  ∀ args st kv kp ρ a w vs, h args st kv kp → StRel B ρ st a fs w → SV.rels (cx B ρ st.hp w) args vs →
    ∃ fn tmps assign body, (Instr.yield B.lp vs.toArray).run P w = .ok (.round B.lp fn tmps assign body) w ∧ RoundIn Fence.wide 0 P B.lp fn tmps assign body w (CallPost B a fs kv kp)
def SeqOk (P : Program) (gl : Gl) (f : Nat) (q : CallSem → CallSem) : Prop :=
  (∀ args w, (callFunc f args).run P w = .ok (.enter f args) w) ∧
  ∀ h args st kv kp B ρ a fs w vs, B.gl = gl → YieldOk P B (a :: fs) h → q h args st kv kp → StRel B ρ st a fs w → SV.rels (cx B ρ st.hp w) args vs → Calls P f vs.toArray w (CallPost B a fs kv kp)
def modeOf : Option Value → FrameMode
  | none => .returning
  | some v => .panicking [{ v := v, recovered := false }]
def ORel (C : Cx) : Option SV → Option Value → Prop
  | none, o => o = none
  | some s, o => ∃ v, o = some v ∧ s.rel C v
def DefPost (B : Base) (a : Act) (fs : List Act) (K : St → Option SV → Prop) : Ending → FrameMode → World → Prop
  | .returned _, u, w => ∃ st p ρ o, K st p ∧ StRel B ρ st a fs w ∧ ORel (cx B ρ st.hp w) p o ∧ settle u = modeOf o
  | _, _, _ => False
def DefOk (P : Program) (gl : Gl) (f : Nat) (d : DefSem) : Prop :=
  (∀ args w, (callFunc f args).run P w = .ok (.enter f args) w) ∧
  ∀ cap st p K B ρ a fs w vs o, B.gl = gl → d cap st p K → StRel B ρ st a fs w → SV.rels (cx B ρ st.hp w) cap vs → ORel (cx B ρ st.hp w) p o → CallsDIn Fence.wide 0 P f vs.toArray (modeOf o) w (DefPost B a fs K)
structure Env.Ok (E : Env) (gl : Gl) : Prop where
  ty : E.toTy.Ok
  fn : ∀ f c, E.fns f = some c → CallOk E.P gl f c
  seq : ∀ f q, E.seqs f = some q → SeqOk E.P gl f q
  df : ∀ f d, E.dfs f = some d → DefOk E.P gl f d
  mixed : E.P.follows .mixedOrders = true
def St.toBytes (E : Ty) (st : St) (src dst : Nat) (s : SV) (kv : SV → St → Prop) : Prop :=
  match E.d src, E.d dst, s with
  | .str, .sl e, .dat .str l => if isU8 (E.d e) then kv (.dat (.sl (.int .u8)) l) st else False
  | _, _, _ => False
def St.toRow (E : Ty) (st : St) (src dst : Nat) (s : SV) (kv : SV → St → Prop) : Prop :=
  match E.d src, E.d dst, s with
  | .str, .sl e, .dat .str l => if isU8 (E.d e) then kv (.own st.hp.length) { st with hp := st.hp ++ [some (.row (e + BIG) (.int .u8) l)] } else False
  | _, _, _ => False
def ownDst (l : List Nat) : Option Nat → Bool
  | some d => l.contains d
  | none => false
def St.eqNil (E : Ty) (st : St) (op : BinOp) (ty : Nat) (s t : SV) (kv : SV → St → Prop) : Prop :=
  match E.d ty, t with
  | .sl _, .cst c => if nilSlice c then
      match st.list s with
      | some ⟨_, xs⟩ => match op with
        | .eql => ∀ b : Bool, (b = true → xs = []) → kv (.dat .bool b) st
        | .neq => ∀ b : Bool, (b = false → xs = []) → kv (.dat .bool b) st
        | _ => False
      | none => False
    else False
  | _, _ => False
def St.capOf (E : Ty) (st : St) (t : Nat) (x : SV) (kv : SV → St → Prop) : Prop :=
  match E.d t, x with
  | .sl _, .cst c => if nilSlice c then kv (.dat (.int .i64) (0 : Int)) st else False
  | .sl _, x => match st.list x with
    | some ⟨_, xs⟩ => ∀ c : Int, (xs.length : Int) ≤ c → c ≤ 9223372036854775807 → kv (.dat (.int .i64) c) st
    | none => False
  | _, _ => False
def CAND : Nat := 2000000
def candOf : List Nat → List Nat
  | [] => []
  | n :: l => if CAND ≤ n then (n - CAND) :: candOf l else candOf l
def isOne (f : Nat) : List Nat → Prop
  | [] => False
  | g :: l => f = g + 1 ∨ isOne f l
def callEach (fns : Nat → Option CallSem) (f : Nat) (args : List SV) (st : St) (kv kp : SV → St → Prop) : List Nat → Prop
  | [] => True
  | g :: l => (f = g + 1 → (match fns g with
    | some cs => cs args st kv kp
    | none => False)) ∧ callEach fns f args st kv kp l
def vcCall (E : Env) (st : St) (c : Call) (kv kp : SV → St → Prop) : Prop :=
  match c.callee with
  | .builtin .append => match c.args.toList, c.argTypes.toList with
    | [s, x], [t, t'] => if t' = t then
        match st.ev x with
        | .dat .str _ => False
        | sx => st.append E.toTy t (st.ev s) sx kv
      else match E.d t' with
        | .str => st.appStr E.toTy t t' (st.ev s) (st.ev x) kv
        | .int _ => st.appMk E.toTy t t' (st.ev s) (st.ev x) kv
        | _ => False
    | _, _ => False
  | .builtin .cap => match c.args.toList, c.argTypes.toList with
    | [x], [t] => st.capOf E.toTy t (st.ev x) kv
    | _, _ => False
  | .value (.func f) => match E.fns f with
    | some cs => cs (c.args.toList.map st.ev) st kv kp
    | none => False
  | .value x => match st.ev x with
    | .fn f cap => match E.fns f with
      | some cs => cs (c.args.toList.map st.ev ++ cap) st kv kp
      | none => False
    | .yld => match E.yld with
      | some h => h (c.args.toList.map st.ev) st kv kp
      | none => False
    | .dat .fn f => isOne f (candOf E.own) ∧ callEach E.fns f (c.args.toList.map st.ev) st kv kp (candOf E.own)
    | _ => False
  | _ => False
def udec (l : List Int) (i : Nat) : Nat × Nat := Lib.decodeN (l.length - i) (l.getD i 0).toNat (l.getD (i + 1) 0).toNat (l.getD (i + 2) 0).toNat (l.getD (i + 3) 0).toNat
def St.range (E : Ty) (st : St) (t : Nat) (s : SV) (kv : SV → St → Prop) : Prop :=
  match E.d t, s with
  | .str, .dat .str l => kv (.ptr st.hp.length 0) { st with hp := st.hp ++ [some (.siter l 0)] }
  | .map _ _, .dat (.mp k) xs => xs ≠ [] ∧ kv (.ptr st.hp.length 0) { st with hp := st.hp ++ [some (.miter k xs [])] }
  | _, _ => False
def St.nextM (st : St) (s : SV) (kv : SV → St → Prop) : Prop :=
  match s with
  | .ptr n 0 => match st.hp[n]? with
    | some (some (.miter k xs seen)) => (∀ (i : Nat) (key : Int) (x : k.T), xs[i]? = some (key, x) → i ∉ seen → kv (.tup [.cst (.bool true), .dat (.int .i64) key, .dat k x]) { st with hp := st.hp.set n (some (.miter k xs (seen ++ [i]))) }) ∧
        ((∀ i : Nat, i < xs.length → i ∈ seen) → kv (.tup [.cst (.bool false)]) st)
    | _ => False
  | _ => False
def St.next (st : St) (s : SV) (kv : SV → St → Prop) : Prop :=
  match s with
  | .ptr n 0 => match st.hp[n]? with
    | some (some (.siter l pos)) => (pos < l.length → kv (.tup [.cst (.bool true), .dat (.int .i64) (pos : Int), .dat (.int .i32) ((udec l pos).1 : Int)]) { st with hp := st.hp.set n (some (.siter l (pos + (udec l pos).2))) }) ∧
        (l.length ≤ pos → kv (.tup [.cst (.bool false)]) st)
    | _ => False
  | _ => False
def St.defr (E : Env) (st : St) (o : Oper) : Option St :=
  match o.op with
  | .defer c => if E.rnd then none else match c.callee, c.args.toList with
    | .value x, [] => match st.ev x with
      | .fn f cap => some { st with df := .fn f cap :: st.df }
      | _ => none
    | _, _ => none
  | _ => none
def opnds : Op → List Operand
  | .call c => c.args.toList ++ (match c.callee with | .value x => [x] | _ => [])
  | .box _ x => [x]
  | .build _ p => p.toList.map (·.2)
  | .buildSlice _ _ p => p.toList.map (·.2)
  | .convert _ _ x => [x]
  | .binOp _ _ x y _ => [x, y]
  | .panic x => [x]
  | .makeSlice _ l c => [l, c]
  | _ => []
def St.ungate : List Operand → St → List Prop × St
  | [], st => ([], st)
  | .tmp t :: l, st => match st.sl.lookup t with
    | some (.gd p s) => ((p = true) :: (ungate l { st with sl := (t, s) :: st.sl }).1, (ungate l { st with sl := (t, s) :: st.sl }).2)
    | _ => ungate l st
  | _ :: l, st => ungate l st
def St.picked (st : St) : Op → Option Operand
  | .pick (.tmp t) x y => match st.kn.lookup t with
    | some true => some x
    | some false => some y
    | none => none
  | _ => none
def vcOp' (E : Env) (st : St) (o : Oper) (kv kp : SV → St → Prop) : Prop :=
  match o.op with
    | .box t x => st.box E.toTy t (st.ev x) kv
    | .alloc t => st.alloc E.toTy t kv
    | .build t parts => if ownDst E.own o.dst then st.buildK E.toTy t parts.toList kv else st.build E.toTy t parts.toList kv
    | .buildSlice t n parts => st.buildSlice E.toTy t n parts.toList kv
    | .store t ad x => conj (st.g ad).1 (conj (st.g x).1 (st.store E.toTy t (st.g ad).2 (st.g x).2 kv))
    | .pick c x y => match st.ev c with
      | .dat .bool b => (b = true → conj (st.g x).1 (kv (st.g x).2 st)) ∧ (b = false → conj (st.g y).1 (kv (st.g y).2 st))
      | _ => False
    | .convert src dst x => if ownDst E.own o.dst then st.toRow E.toTy src dst (st.ev x) kv else st.toBytes E.toTy src dst (st.ev x) kv
    | .makeSlice t l c => st.make E.toTy t (st.ev l) (st.ev c) kv
    | .makeMap t none => st.mkMap E.toTy t kv
    | .insert t m k x => st.insertM E.toTy t (st.ev m) (st.ev k) (st.ev x) kv
    | .binOp op ty x y _ => st.eqNil E.toTy op ty (st.ev x) (st.ev y) kv
    | .panic x => match st.ev x with
      | .ifc t s => kp (.ifc t s) st
      | _ => False
    | .call c => vcCall E st c kv kp
    | .range t x => st.range E.toTy t (st.ev x) kv
    | .next x true => st.next (st.ev x) kv
    | .next x false => st.nextM (st.ev x) kv
    | _ => False
def vcOp (E : Env) (st : St) (o : Oper) (kv kp : SV → St → Prop) : Prop :=
  match st.picked o.op with
  | some x => conj (st.g x).1 (kv (st.g x).2 st)
  | none => match st.op1 E.toTy o with
    | some (obs, s) => conj obs (kv s st)
    | none => conj (st.ungate (opnds o.op)).1 (vcOp' E (st.ungate (opnds o.op)).2 o kv kp)
section
variable {E : Env} {gl : Gl} {B : Base} {ρ : Nat → Value} {st : St} {a : Act} {fs : List Act} {w : World} {kv kp : SV → St → Prop}
theorem StRel.grow {w' : World} (h : StRel B ρ st a fs w) (hg : w.grownBy w' none) : StRel B ρ st a fs w' := by
  have le : (cx B ρ st.hp w).le (cx B ρ st.hp w') := ⟨hg.size, fun b hb _ => hg.block b hb (by simp), fun _ _ h => h, Nat.le_refl _, fun _ _ => rfl, rfl⟩
  refine ⟨⟨h.h.kept.trans (S' := fun _ => False) ⟨hg.os, hg.tape, hg.output, hg.size, fun b hb _ => hg.block b hb (by simp)⟩ (fun _ _ h => h.elim),
    fun n o ho => (h.h.obj n o ho).le le (fun b hb => hg.block b (h.h.live_block ⟨o, ho⟩ hb) (by simp)), h.h.sep, h.h.own, h.h.fb⟩, h.s.le le, h.kn, h.k.le le, h.d.le le, h.g⟩
theorem toBytes_sound (hE : E.Ok gl) (h : StRel B ρ st a fs w) {src dst : Nat} {x : Operand} {o : Oper} (e : o.op = .convert src dst x) (hk : st.toBytes E.toTy src dst (st.ev x) kv) : Yield E.toTy B o a fs w kv := by
  have hs := hE.ty.d src
  have hd := hE.ty.d dst
  have hx := ev_rel h x
  unfold St.toBytes at hk
  split at hk
  . rename_i el l e1 e2 e3
    rw [e1] at hs
    rw [e2] at hd
    rw [e3] at hx
    split at hk
    . rename_i h8
      have he := hE.ty.d el
      rw [isU8_eq h8] at he
      obtain ⟨s, hs1, hs2, hs3⟩ := VRep_str.1 hx
      have hrun := run_bytes_of_string (P := E.P) w src dst el s hs hd he
      have hg : w.grownBy (w.drew.alloc (.cells (bytesRow s (grownCap w s.size 0 el)) el ((bytesRow s (grownCap w s.size 0 el)).size, (bytesRow s (grownCap w s.size 0 el)).size + 1))) none :=
        ⟨rfl, rfl, rfl, by simp, fun k hk _ => Below.heap_alloc w.drew _ k hk⟩
      have h2 := h.grow hg
      refine ⟨_, _, _, _, ρ, .slice (some ⟨w.heap.size, 0, none⟩) s.size (grownCap w s.size 0 el), ?_, .inl rfl, hk, h2, VRep_sl.2 ⟨some ⟨w.heap.size, 0, none⟩, grownCap w s.size 0 el, ?_, ?_, ?_, fun hne => ⟨_, rfl, by simp, ?_, fun i y hy => ?_⟩⟩⟩
      . unfold execOp
        rw [e]
        simp only [hs1, Sem.run_bind, hrun, Result.andThen_ok, Sem.run_pure]
      . rw [← hs2, bs_length]
      . rw [← hs2, bs_length]; exact grownCap_ge _ _ _ _
      . have := grownCap_le_maxLen w s.size 0 el (by simp only [maxLen]; omega)
        simpa [maxLen] using this
      . rintro (hF | ⟨m, hm, hb⟩)
        . have := (h.h.fb _ hF).1
          have := h.h.kept.size
          simp only at *
          omega
        . have := h.h.live_block hm hb
          simp only at *
          omega
      . rw [← hs2] at hy
        have hi : i < s.size := by
          have := (List.getElem?_eq_some_iff.1 hy).1
          rwa [bs_length] at this
        have hy2 : y = (s.data[i]'(by simpa using hi)).toNat := by
          have := (List.getElem?_eq_some_iff.1 hy).2
          simpa [bs] using this.symm
        refine ⟨[.int .u8 y], ⟨rfl, ?_⟩, fun j u hu => ?_⟩
        . have := (s.data[i]'(by simpa using hi)).toNat_lt
          rw [hy2]
          constructor <;> simp [IntKind.min, IntKind.max, IntKind.signed, IntKind.bits] <;> omega
        . cases j with
          | zero =>
            cases hu
            have hb := bytesRow_at s (grownCap w s.size 0 el) i (by simpa using hi)
            rw [addr_add]
            simp only [Kd.sz, Nat.mul_one, Nat.add_zero, Nat.zero_add]
            have hn : (w.drew.alloc (.cells (bytesRow s (grownCap w s.size 0 el)) el ((bytesRow s (grownCap w s.size 0 el)).size, (bytesRow s (grownCap w s.size 0 el)).size + 1))).heap[w.heap.size]? = _ := heap_alloc_new w.drew _
            unfold World.cell?
            simp only [hn]
            rw [hy2]
            simpa using hb
          | succ j => simp at hu
    . exact hk.elim
  . exact hk.elim
theorem toRow_sound (hE : E.Ok gl) (h : StRel B ρ st a fs w) {src dst : Nat} {x : Operand} {o : Oper} (e : o.op = .convert src dst x) (hk : st.toRow E.toTy src dst (st.ev x) kv) : Yield E.toTy B o a fs w kv := by
  have hs := hE.ty.d src
  have hd := hE.ty.d dst
  have hx := ev_rel h x
  unfold St.toRow at hk
  split at hk
  . rename_i el l e1 e2 e3
    rw [e1] at hs
    rw [e2] at hd
    rw [e3] at hx
    split at hk
    . rename_i h8
      have he := hE.ty.d el
      rw [isU8_eq h8] at he
      obtain ⟨s, hs1, hs2, hs3⟩ := VRep_str.1 hx
      have hrun := run_bytes_of_string (P := E.P) w src dst el s hs hd he
      have hcge := grownCap_ge w s.size 0 el
      have hcle := grownCap_le_maxLen w s.size 0 el (by simp only [maxLen]; omega)
      generalize grownCap w s.size 0 el = cap at hrun hcge hcle
      have hbz : (bytesRow s cap).size = cap := by
        have e : s.data.size = s.size := rfl
        simp only [bytesRow, Array.size_append, Array.size_map, Array.size_replicate, e]; omega
      have T : Turn B ρ (upd ρ st.hp.length (.slice (some ⟨w.heap.size, 0, none⟩) s.size cap)) st.hp (st.hp ++ [some (.row (el + BIG) (.int .u8) l)]) w
          (w.drew.alloc (.cells (bytesRow s cap) el ((bytesRow s cap).size, (bytesRow s cap).size + 1))) st.hp.length none :=
        Turn.new ⟨rfl, rfl, rfl, by simp, fun k hk _ => Below.heap_alloc w.drew _ k hk⟩ (fun b hb => by cases hb; exact Nat.le_refl _)
      refine ⟨_, _, _, _, _, _, ?_, .inl rfl, hk, h.turn T (fun ob hob => ?_), ⟨by simp, (upd_same _ _ _).symm, .inl ⟨_, _, _, rfl⟩⟩⟩
      . unfold execOp
        rw [e]
        simp only [hs1, Sem.run_bind, hrun, Result.andThen_ok, Sem.run_pure]
      . rw [getElem?_snoc] at hob
        cases hob
        rw [upd_same]
        have hn : (w.drew.alloc (.cells (bytesRow s cap) el ((bytesRow s cap).size, (bytesRow s cap).size + 1))).heap[w.heap.size]? = some (.cells (bytesRow s cap) el ((bytesRow s cap).size, (bytesRow s cap).size + 1)) := heap_alloc_new w.drew _
        have hll : l.length = s.size := by rw [← hs2, bs_length]
        refine ⟨(bytesRow s cap).toList.take (l.length * 1), .inr ⟨Nat.le_add_left _ _, ?_, w.heap.size, cap, bytesRow s cap, ((bytesRow s cap).size, (bytesRow s cap).size + 1), by rw [hll], ?_, Nat.le_refl _, by rw [hll]; exact hcge, hcle, by rw [hbz]; simp [Kd.sz], rfl⟩, fun i y hy => ?_⟩
        . simp only [Kd.sz, List.length_take, Array.length_toList, hbz]; omega
        . rw [Nat.add_sub_cancel]; exact hn
        . have hi : i < s.size := by
            have := (List.getElem?_eq_some_iff.1 hy).1
            omega
          rw [← hs2] at hy
          have hy2 : y = (s.data[i]'(by simpa using hi)).toNat := by
            have := (List.getElem?_eq_some_iff.1 hy).2
            simpa [bs] using this.symm
          have hb := bytesRow_at s cap i (by simpa using hi)
          have hseg : (((bytesRow s cap).toList.take (l.length * 1)).drop (i * 1)).take 1 = [.int .u8 y] := by
            apply List.ext_getElem?
            intro j
            cases j with
            | zero =>
              rw [List.getElem?_take_of_lt (by omega), List.getElem?_drop, List.getElem?_take_of_lt (by omega), hy2, Array.getElem?_toList, show i * 1 + 0 = i by omega, hb]
              rfl
            | succ j => simp [List.getElem?_take]
          simp only [Kd.sz]
          rw [hseg]
          refine ⟨rfl, ?_⟩
          have := (s.data[i]'(by simpa using hi)).toNat_lt
          rw [hy2]
          constructor <;> simp [IntKind.min, IntKind.max, IntKind.signed, IntKind.bits] <;> omega
    . exact hk.elim
  . exact hk.elim
theorem nil_any {P : Program} {t e : Nat} (hd : P.underlying t = some (.slice e)) (d : Nat) (A : Option Addr) (n c : Nat) : (Op.equalIn (d + 1) t (.slice A n c) (.slice none 0 0)).run P w = .ok A.isNone w := by
  cases A <;> simp [Op.equalIn, run_underlying hd]
theorem eqNil_sound (hE : E.Ok gl) (h : StRel B ρ st a fs w) {op : BinOp} {ty yt : Nat} {x y : Operand} {o : Oper} (e : o.op = .binOp op ty x y yt) (hk : st.eqNil E.toTy op ty (st.ev x) (st.ev y) kv) : Yield E.toTy B o a fs w kv := by
  have hd := hE.ty.d ty
  have hx := ev_rel h x
  have hy := ev_rel h y
  unfold St.eqNil at hk
  split at hk
  . rename_i el c e1 e2
    rw [e1] at hd
    rw [e2] at hy
    have hd : E.P.underlying ty = some (.slice el) := hd
    have hy : a.eval y = c := hy
    split at hk
    . rename_i hn
      rw [nilSlice_eq hn] at hy
      split at hk
      . rename_i k xs hl
        obtain ⟨A, cc, hv, h1, _, h2⟩ := list_rel h hx hl
        have hnil : A.isNone = true → xs = [] := by
          intro hA
          cases xs with
          | nil => rfl
          | cons u l => obtain ⟨ad, hA', _⟩ := h2 (by simp); rw [hA'] at hA; cases hA
        have q : (Op.equal ty (.slice A xs.length cc) (.slice none 0 0)).run E.P w = .ok A.isNone w := nil_any hd 9999 A _ _
        split at hk
        . refine ⟨_, w, _, st, ρ, .bool A.isNone, ?_, .inl rfl, hk A.isNone hnil, h, VRep_bool.2 rfl⟩
          unfold execOp
          rw [e]
          simp only [hv, hy, eqGuard, binOp, Sem.run_bind, Sem.run_pure]
          simp [q]
        . refine ⟨_, w, _, st, ρ, .bool (!A.isNone), ?_, .inl rfl, hk (!A.isNone) (by simpa using hnil), h, VRep_bool.2 rfl⟩
          unfold execOp
          rw [e]
          simp only [hv, hy, eqGuard, binOp, Sem.run_bind, Sem.run_pure]
          simp [q]
        . exact hk.elim
      . exact hk.elim
    . exact hk.elim
  . exact hk.elim
theorem capOf_sound (hE : E.Ok gl) (h : StRel B ρ st a fs w) {t : Nat} {x : Operand} {o : Oper} {c : Call} (e : o.op = .call c) (hc : c.callee = .builtin .cap) (ha : c.args = #[x]) (hta : c.argTypes = #[t])
    (hk : st.capOf E.toTy t (st.ev x) kv) : Yield E.toTy B o a fs w kv := by
  have hd := hE.ty.d t
  have hx := ev_rel h x
  have go : ∀ (e' : Nat) (A : Option Addr) (n cc : Nat), E.P.underlying t = some (.slice e') → a.eval x = .slice A n cc → (execOp a.eval o).run E.P w = .ok (.value (goInt cc)) w := by
    intro e' A n cc hd hx
    unfold execOp
    rw [e]
    simp only [resolve, hc, ha, hta, Sem.run_bind, Sem.run_pure, Result.andThen_ok, invoke, builtin, List.map_toArray, List.map_cons, List.map_nil, hx]
    simp [Builtin.cap_, run_underlying hd]
  unfold St.capOf at hk
  split at hk
  . rename_i e' c0 e1 e2
    rw [e1] at hd
    rw [e2] at hx
    split at hk
    . rename_i hn
      have hx : a.eval x = c0 := hx
      rw [nilSlice_eq hn] at hx
      exact ⟨_, w, _, st, ρ, _, go e' _ _ _ hd hx, .inl rfl, hk, h, VRep_int.2 ⟨rfl, by constructor <;> decide⟩⟩
    . exact hk.elim
  . rename_i e' s e1 hne
    rw [e1] at hd
    split at hk
    . rename_i k xs hl
      obtain ⟨A, cc, hv, h1, h2, _⟩ := list_rel h hx hl
      exact ⟨_, w, _, st, ρ, _, go _ _ _ _ hd hv, .inl rfl, hk cc (by omega) (by omega), h, VRep_int.2 ⟨rfl, by constructor <;> simp [IntKind.min, IntKind.max, IntKind.signed, IntKind.bits] <;> omega⟩⟩
    . exact hk.elim
  . exact hk.elim
theorem bs_get (s : ByteArray) (i : Nat) : (s.get! i).toNat = ((bs s).getD i 0).toNat := by
  by_cases h : i < s.size
  . rw [bs_getD s i h]
    rw [show s.get! i = s[i]'h by
      obtain ⟨d⟩ := s
      have h' : i < d.size := h
      show d[i]! = d[i]
      rw [getElem!_pos d i h']]
    rfl
  . have h' : ¬ i < s.data.size := h
    rw [show s.get! i = default by
      obtain ⟨d⟩ := s
      show d[i]! = default
      rw [getElem!_neg d i h']]
    rw [List.getD_eq_getElem?_getD, List.getElem?_eq_none (by rw [bs_length]; omega)]
    rfl
theorem udec_eq (s : ByteArray) (i : Nat) : Utf8.decode s i = udec (bs s) i := by
  rw [Lib.decode_at, udec, bs_length, bs_get, bs_get, bs_get, bs_get]
set_option maxRecDepth 100000 in
theorem udec_lt (l : List Int) (i : Nat) (h : ∀ j, (l.getD j 0).toNat < 256) : (udec l i).1 ≤ 2097151 := by
  unfold udec Lib.decodeN
  have h0 := h i
  have h1 := h (i + 1)
  have h2 := h (i + 2)
  have h3 := h (i + 3)
  simp only [ge_iff_le]
  repeat' split
  all_goals (simp only []; omega)
theorem range_sound (hE : E.Ok gl) (h : StRel B ρ st a fs w) {t : Nat} {x : Operand} {o : Oper} (e : o.op = .range t x) (hk : st.range E.toTy t (st.ev x) kv) : Yield E.toTy B o a fs w kv := by
  have hd := hE.ty.d t
  have hx := ev_rel h x
  unfold St.range at hk
  split at hk
  . rename_i l e1 e2
    rw [e1] at hd
    rw [e2] at hx
    obtain ⟨s, hs, hl, hsz⟩ := VRep_str.1 hx
    have hd : E.P.underlying t = some .string := hd
    have T : Turn B ρ (upd ρ st.hp.length (.pointer (some ⟨w.heap.size, 0, none⟩))) st.hp (st.hp ++ [some (.siter l 0)]) w (w.alloc (.stringIter s 0)) st.hp.length none :=
      Turn.new (World.grownBy_alloc w _ none) (fun b hb => by cases hb; exact Nat.le_refl _)
    refine ⟨_, _, _, _, _, _, ?_, .inl rfl, hk, h.turn T (fun ob hob => ?_), ⟨by simp, w.heap.size, upd_same _ _ _, rfl⟩⟩
    . unfold execOp
      rw [e]
      simp [hs, Instr.range, run_underlying hd, run_newObj_alloc]
    . rw [getElem?_snoc] at hob
      cases hob
      rw [upd_same]
      exact ⟨_, s, rfl, heap_alloc_new w _, hl, hsz⟩
  . rename_i kt et k xs e1 e2
    rw [e1] at hd
    rw [e2] at hx
    obtain ⟨hne, hk⟩ := hk
    have hd : E.P.underlying t = some (.map kt et) := hd
    rcases VRep_mp.1 hx with ⟨h0, _⟩ | ⟨r, es, clock, hv, hm, hent⟩
    . exact absurd h0 hne
    simp only [List.cons.injEq, and_true] at hv
    have hm' := hm
    obtain ⟨h1, h2, h3, h4, h5⟩ := hm
    have h3 : w.heap[r]? = some (.map es clock) := h3
    have T : Turn B ρ (upd ρ st.hp.length (.pointer (some ⟨w.heap.size, 0, none⟩))) st.hp (st.hp ++ [some (.miter k xs [])]) w (w.alloc (.mapIter (some r) clock #[] clock)) st.hp.length none :=
      Turn.new (World.grownBy_alloc w _ none) (fun b hb => by cases hb; exact Nat.le_refl _)
    refine ⟨_, _, _, _, _, _, ?_, .inl rfl, hk, h.turn T (fun ob hob => ?_), ⟨by simp, w.heap.size, upd_same _ _ _, rfl⟩⟩
    . unfold execOp
      rw [e]
      simp only [hv, Instr.range, Sem.run_bind, run_underlying hd, Result.andThen_ok, MapKept.run_getObj_map h3, Sem.run_pure, run_newObj_alloc]
    . rw [getElem?_snoc] at hob
      cases hob
      rw [upd_same]
      exact ⟨_, r, es, clock, rfl, hm'.le T.le, hent.imp fun x _ c hc => hc.step T.le.size T.le.same T.le.F, fun i hi => (by cases hi), heap_alloc_new w _⟩
  . exact hk.elim
theorem nextM_sound (h : StRel B ρ st a fs w) {x : Operand} {o : Oper} (e : o.op = .next x false) (hk : st.nextM (st.ev x) kv) : Yield E.toTy B o a fs w kv := by
  have hx := ev_rel h x
  unfold St.nextM at hk
  split at hk
  . rename_i n e2
    rw [e2] at hx
    obtain ⟨hn, b, hb, hxv⟩ := hx
    split at hk
    . rename_i k xs seen ho
      obtain ⟨b', r, es, clock, hb', hm, hent, hseen, hh⟩ := h.h.obj n _ ho
      have hm' := hm
      obtain ⟨h1, h2, h3, h4, h5⟩ := hm
      simp only at hb
      rw [hb] at hb'
      cases hb'
      have h3 : w.heap[r]? = some (.map es clock) := h3
      have hh : w.heap[b]? = _ := hh
      obtain ⟨hlen, hget⟩ := ent_get hent
      have bornAt : ∀ (i : Nat) (e : MapEntry), es.toList[i]? = some e → (es.toList.map (·.born)).getD i 0 = e.born := fun i e he => by
        simp [List.getD_eq_getElem?_getD, he]
      rcases run_next_at (P := E.P) w o.type b r clock clock _ es clock hh h3 h5 (Nat.le_refl _) with ⟨h0, hrun⟩ | ⟨ent, he, w1, hal, hrun⟩
      . refine ⟨_, _, _, _, ρ, .tuple #[.bool false], ?_, .inl rfl, hk.2 fun i hi => ?_, h, ⟨[_], rfl, _, _, rfl, rfl, rfl⟩⟩
        . unfold execOp
          rw [e]
          simp only [hxv, Sem.run_bind, hrun, Result.andThen_ok, Sem.run_pure]
        . have hi2 : i < es.toList.length := by rw [hlen]; exact hi
          have hc := all_seen es _ h0 es.toList[i] (List.getElem_mem hi2)
          have hc : es.toList[i].born ∈ seen.map fun i => (es.toList.map (·.born)).getD i 0 := by simpa using hc
          obtain ⟨j, hj, hje⟩ := List.mem_map.1 hc
          have hj2 : j < es.toList.length := by simpa using hseen j hj
          rw [bornAt j _ (List.getElem?_eq_getElem hj2)] at hje
          have : j = i := by
            have hp := List.pairwise_iff_getElem.1 h4
            rcases Nat.lt_trichotomy j i with hlt | heq | hgt
            . exact absurd (by rw [List.getElem_map, List.getElem_map]; exact hje) (hp j i (by simpa using hj2) (by simpa using hi2) hlt)
            . exact heq
            . exact absurd (by rw [List.getElem_map, List.getElem_map]; exact hje.symm) (hp i j (by simpa using hi2) (by simpa using hj2) hgt)
          rw [← this]; exact hj
      . obtain ⟨hem, hes⟩ := mem_left he
        obtain ⟨i, hi⟩ := List.mem_iff_getElem?.1 hem
        obtain ⟨x0, hx0, hkey, hin, cs, hrep, hval⟩ := hget i ent hi
        have hil : i < es.toList.length := (List.getElem?_eq_some_iff.1 hi).1
        have hni : i ∉ seen := fun hc => by
          have : ((seen.map fun i => (es.toList.map (·.born)).getD i 0).toArray).contains ent.born = true := by
            rw [List.contains_toArray, List.contains_eq_mem, decide_eq_true_eq]
            exact List.mem_map.2 ⟨i, hc, bornAt i ent hi⟩
          rw [this] at hes; cases hes
        have hblt : b < w.heap.size := (Array.getElem?_eq_some_iff.1 hh).1
        have hbr : b ≠ r := fun e => by rw [e, h3] at hh; cases hh
        have hset : ∀ (ob : Obj) (w1 : World), (w1 = w ∨ w1 = w.drew) → w.grownBy (ChangeMaps.setBlock w1 b ob) (some b) ∧ (ChangeMaps.setBlock w1 b ob).heap[b]? = some ob := by
          intro ob w1 hw1
          have hhp : (ChangeMaps.setBlock w1 b ob).heap = w.heap.setIfInBounds b ob := by rcases hw1 with rfl | rfl <;> rfl
          refine ⟨⟨by rcases hw1 with rfl | rfl <;> rfl, by rcases hw1 with rfl | rfl <;> rfl, by rcases hw1 with rfl | rfl <;> rfl, by rw [hhp]; simp, fun q _ hq => ?_⟩, by rw [hhp]; simp [hblt]⟩
          have : b ≠ q := fun e => hq (by rw [e])
          rw [hhp]; simp [this]
        obtain ⟨hg, hat⟩ := hset (.mapIter (some r) clock ((seen.map fun i => (es.toList.map (·.born)).getD i 0).toArray.push ent.born) clock) w1 hal
        have T : Turn B ρ ρ st.hp (st.hp.set n (some (.miter k xs (seen ++ [i])))) w _ n (some b) :=
          Turn.at ho hg (fun c hc => by cases hc; rw [hb]; rfl)
        refine ⟨_, _, _, _, ρ, .tuple #[.bool true, ent.key, ent.val], ?_, .inl rfl, hk.1 i x0.1 x0.2 hx0 hni, h.turn T (fun ob hob => ?_), ?_⟩
        . unfold execOp
          rw [e]
          simp only [hxv, Sem.run_bind, hrun, Result.andThen_ok, Sem.run_pure]
        . have hlt : n < st.hp.length := (List.getElem?_eq_some_iff.1 ho).1
          rw [List.getElem?_set_self hlt] at hob
          cases hob
          refine ⟨b, r, es, clock, hb, hm'.le T.le, hent.imp fun x _ c hc => hc.step T.le.size T.le.same T.le.F, fun j hj => ?_, ?_⟩
          . rcases List.mem_append.1 hj with hj | hj
            . exact hseen j hj
            . rw [List.mem_singleton.1 hj]; simpa using hil
          . rw [hat]
            simp only [List.map_append, List.map_cons, List.map_nil, bornAt i ent hi, List.push_toArray]
        . refine ⟨[_, _, _], rfl, _, _, rfl, rfl, _, _, rfl, VRep_int.2 ⟨hkey, hin⟩, _, _, rfl, ?_, rfl⟩
          exact VRep.le (C := cx B ρ st.hp w) T.le ⟨cs, hrep, hval⟩
    . exact hk.elim
  . exact hk.elim
theorem next_sound (h : StRel B ρ st a fs w) {x : Operand} {o : Oper} (e : o.op = .next x true) (hk : st.next (st.ev x) kv) : Yield E.toTy B o a fs w kv := by
  have hx := ev_rel h x
  unfold St.next at hk
  split at hk
  . rename_i n e2
    rw [e2] at hx
    obtain ⟨hn, b, hb, hxv⟩ := hx
    split at hk
    . rename_i l pos ho
      obtain ⟨b', s, hb', hh, hl, hsz⟩ := h.h.obj n _ ho
      simp only at hb
      rw [hb] at hb'
      cases hb'
      have hlen : l.length = s.size := by rw [← hl, bs_length]
      have hget : (getObj b).run E.P w = .ok (.stringIter s pos) w := by simp [getObj, Sem.run, hh]
      by_cases hp : pos < l.length
      . have hp' : pos < s.size := by omega
        have T : Turn B ρ ρ st.hp (st.hp.set n (some (.siter l (pos + (udec l pos).2)))) w (w.putObj b (.stringIter s (pos + (udec l pos).2))) n (some b) :=
          Turn.at ho ⟨rfl, rfl, rfl, by simp, fun k hk hne => World.putObj_heap_other (fun e => hne (by rw [e]))⟩ (fun c hc => by cases hc; rw [hb]; rfl)
        have hu : Utf8.decode s pos = udec l pos := by rw [udec_eq, hl]
        refine ⟨_, _, _, _, ρ, .tuple #[.bool true, goInt pos, .int .i32 (udec l pos).1], ?_, .inl rfl, hk.1 hp, h.turn T (fun ob hob => ?_), ?_⟩
        . unfold execOp
          rw [e]
          have hset : (setObj b (.stringIter s (pos + (Utf8.decode s pos).2))).run E.P w = .ok () (w.putObj b (.stringIter s (pos + (Utf8.decode s pos).2))) := by simp [setObj, Sem.run, hh, World.putObj]
          simp only [hxv, Instr.next, Sem.run_bind, hget, Result.andThen_ok, hp', if_true, hset, Sem.run_pure]
          rw [hu]
        . have hlt : n < st.hp.length := (List.getElem?_eq_some_iff.1 ho).1
          rw [List.getElem?_set_self hlt] at hob
          cases hob
          exact ⟨b, s, hb, World.putObj_heap_same (Array.getElem?_eq_some_iff.1 hh).1, hl, hsz⟩
        . refine ⟨[_, _, _], rfl, _, _, rfl, rfl, _, _, rfl, VRep_int.2 ⟨rfl, ?_⟩, _, _, rfl, VRep_int.2 ⟨rfl, ?_⟩, rfl⟩
          . constructor <;> simp [IntKind.min, IntKind.max, IntKind.signed, IntKind.bits] <;> omega
          . have := udec_lt l pos (fun j => by
              by_cases hj : j < l.length
              . have := bs_range s (l.getD j 0) (by rw [hl, List.getD_eq_getElem?_getD, List.getElem?_eq_getElem hj]; exact List.getElem_mem hj)
                omega
              . rw [List.getD_eq_getElem?_getD, List.getElem?_eq_none (by omega)]; simp)
            constructor <;> simp [IntKind.min, IntKind.max, IntKind.signed, IntKind.bits] <;> omega
      . have hp' : ¬ pos < s.size := by omega
        refine ⟨_, _, _, _, ρ, .tuple #[.bool false], ?_, .inl rfl, hk.2 (by omega), h, ⟨[_], rfl, _, _, rfl, rfl, rfl⟩⟩
        unfold execOp
        rw [e]
        simp only [hxv, Instr.next, Sem.run_bind, hget, Result.andThen_ok, hp', if_false, Sem.run_pure]
    . exact hk.elim
  . exact hk.elim
abbrev fen (r : Option Nat) : Fence := { Fence.wide with round := r }
structure Lg (P : Program) (rnd dfr : Prop) where
  W : Oper → Act → World → (Act → World → Prop) → (Exit → Act → World → Prop) → Prop
  val : ∀ {o : Oper} {a : Act} {w : World} {next : Act → World → Prop} {Q : Exit → Act → World → Prop} {v : Value} {w' : World}, (∀ c, o.op ≠ .defer c) → (execOp a.eval o).run P w = .ok (.value v) w' → next (a.put o.dst v) w' → W o a w next Q
  skip : ∀ {o : Oper} {a : Act} {w : World} {next : Act → World → Prop} {Q : Exit → Act → World → Prop} {w' : World}, (∀ c, o.op ≠ .defer c) → (execOp a.eval o).run P w = .ok .skip w' → next (a.put o.dst undef) w' → W o a w next Q
  enter : ∀ {o : Oper} {a : Act} {w : World} {next : Act → World → Prop} {Q : Exit → Act → World → Prop} {f : FuncId} {args : Array Value} {w' : World}, (∀ c, o.op ≠ .defer c) → (execOp a.eval o).run P w = .ok (.enter f args) w' →
    Calls P f args w' (fun e w'' => match e with
      | .returned v => next (a.put o.dst v) w''
      | .panicked ch => Q (.panic ch) a w''
      | .outgrown => False) → W o a w next Q
  panic : ∀ {o : Oper} {a : Act} {w : World} {next : Act → World → Prop} {Q : Exit → Act → World → Prop} {v : Value} {w' : World}, (∀ c, o.op ≠ .defer c) → (execOp a.eval o).run P w = .halt (.panic v) w' → Q (.panic [{ v := v, recovered := false }]) a w' → W o a w next Q
  defer : ∀ {o : Oper} {a : Act} {w : World} {next : Act → World → Prop} {Q : Exit → Act → World → Prop} {d : Deferred} {w' : World}, dfr → (execOp a.eval o).run P w = .ok (.defer d) w' → next ({ a with defers := d :: a.defers }.put o.dst undef) w' → W o a w next Q
  round : ∀ {o : Oper} {a : Act} {w : World} {next : Act → World → Prop} {Q : Exit → Act → World → Prop} {l : Nat} {f : FuncId} {tmps : Array Value} {assign body : Code} {w' : World}, rnd → (∀ c, o.op ≠ .defer c) → (execOp a.eval o).run P w = .ok (.round l f tmps assign body) w' →
    RoundIn Fence.wide 0 P l f tmps assign body w' (fun e w'' => match e with
      | .returned v => next (a.put o.dst v) w''
      | .panicked ch => Q (.panic ch) a w''
      | .outgrown => False) → W o a w next Q
def Lg.plain (P : Program) : Lg P False False where
  W o a w next Q := o.wp P a w next Q
  val _ h k := by unfold Oper.wp; rw [h]; exact k
  skip _ h k := by unfold Oper.wp; rw [h]; exact k
  enter _ h k := by
    unfold Oper.wp; rw [h, Oper.upon_enter]
    refine k.mono fun e w' hw => ?_
    cases e <;> first | exact hw | exact hw.elim
  panic _ h k := by unfold Oper.wp; rw [h, Oper.upon_panic]; exact k
  defer h := h.elim
  round h := h.elim
theorem semAt_eq {r : Option Nat} {o : Oper} {ev : Operand → Value} (h : ∀ c, o.op ≠ .defer c) : o.semAt r ev = execOp ev o := by
  cases r with
  | none => rfl
  | some l => exact Oper.semAt_some l ev o h
def Lg.inn (P : Program) (r : Option Nat) : Lg P True (r = none) where
  W o a w next Q := o.wpIn (fen r) 0 P a w next Q
  val hn h k := ⟨fun _ _ => trivial, by rw [semAt_eq hn, h]; exact k⟩
  skip hn h k := ⟨fun _ _ => trivial, by rw [semAt_eq hn, h]; exact k⟩
  enter hn h k := ⟨fun _ _ => trivial, by
    rw [semAt_eq hn, h, Oper.uponIn_enter]
    refine ⟨fun h => (by cases h), ?_⟩
    have : CallsIn Fence.wide 0 P _ _ _ _ := callsIn_wide.2 (k.mono (R' := fun e w'' => _) fun e w' hw => hw)
    have h2 : CallsIn (fen r) 0 P _ _ _ _ := this
    refine CallsIn.mono h2 fun e w' hw => ?_
    cases e <;> first | exact hw | exact hw.elim⟩
  panic hn h k := ⟨fun _ _ => trivial, by rw [semAt_eq hn, h, Oper.uponIn_panic]; exact k⟩
  defer hd h k := ⟨fun _ _ => trivial, by subst hd; show Oper.uponIn _ _ _ _ _ _ _ ((execOp _ _).run P _); rw [h, Oper.uponIn_defer]; exact k⟩
  round _ hn h k := ⟨fun _ _ => trivial, by
    rw [semAt_eq hn, h, Oper.uponIn_round]
    refine ⟨fun h => (by cases h), ?_⟩
    have h2 : RoundIn (fen r) 0 P _ _ _ _ _ _ _ := k
    refine h2.mono fun e w' hw => ?_
    cases e <;> first | exact hw | exact hw.elim⟩
variable {rnd dfr : Prop} {L : Lg E.P rnd dfr}
theorem wp_of_yield {next : Act → World → Prop} {Q : Exit → Act → World → Prop} {o : Oper} (hn : ∀ c, o.op ≠ .defer c) (hy : Yield E.toTy B o a fs w kv)
    (hv : ∀ s st' ρ' v w', kv s st' → StRel B ρ' st' a fs w' → s.rel (cx B ρ' st'.hp w') v → next (a.put o.dst v) w') : L.W o a w next Q := by
  obtain ⟨n, w', s, st', ρ', v, h1, h2, h3, h4, h5⟩ := hy
  rcases h2 with rfl | ⟨rfl, rfl⟩
  . exact L.val hn h1 (hv _ _ _ _ _ h3 h4 h5)
  . exact L.skip hn h1 (hv _ _ _ _ _ h3 h4 h5)
theorem vcCall_sound (hE : E.Ok gl) (hB : B.gl = gl) (hy : ∀ hd, E.yld = some hd → rnd ∧ YieldOk E.P B fs hd) (h : StRel B ρ st a fs w) {o : Oper} {c : Call} (e : o.op = .call c) (hk : vcCall E st c kv kp) {next : Act → World → Prop} {Q : Exit → Act → World → Prop}
    (hv : ∀ s st' ρ' v w', kv s st' → StRel B ρ' st' a fs w' → s.rel (cx B ρ' st'.hp w') v → next (a.put o.dst v) w')
    (hp : ∀ s st' ρ' v w', kp s st' → StRel B ρ' st' a fs w' → s.rel (cx B ρ' st'.hp w') v → Q (.panic [{ v := v, recovered := false }]) a w') : L.W o a w next Q := by
  have hn : ∀ c', o.op ≠ .defer c' := fun c' h => by rw [e] at h; cases h
  have enter : ∀ (f : Nat) (cs : CallSem) (args : List SV) (vs : List Value), E.fns f = some cs → cs args st kv kp → SV.rels (cx B ρ st.hp w) args vs →
      (execOp a.eval o).run E.P w = (callFunc f vs.toArray).run E.P w → L.W o a w next Q := by
    intro f cs args vs hf hcs hr hrun
    rcases hE.fn f cs hf args st kv kp B ρ a fs w vs hB hcs h hr with ⟨h1, h2⟩ | ⟨v, h1, s, st', ρ', h2, h3, h4⟩
    . refine L.enter hn (hrun.trans h1) (h2.mono fun en w' hw => ?_)
      cases en with
      | returned v => obtain ⟨s, st', ρ', h1, h2, h3⟩ := hw; exact hv _ _ _ _ _ h1 h2 h3
      | panicked ch => obtain ⟨v, s, st', ρ', rfl, h1, h2, h3⟩ := hw; exact hp _ _ _ _ _ h1 h2 h3
      | outgrown => exact hw.elim
    . exact L.val hn (hrun.trans h1) (hv _ _ _ _ _ h2 h3 h4)
  unfold vcCall at hk
  split at hk
  . rename_i hc
    split at hk
    . rename_i s x t t' e1 e2
      split at hk
      . rename_i htt
        subst htt
        have e1 : c.args = #[s, x] := by apply Array.ext'; simpa using e1
        have e2 : c.argTypes = #[t', t'] := by apply Array.ext'; simpa using e2
        split at hk
        . exact hk.elim
        . rename_i hstr
          exact wp_of_yield hn (append_sound hE.ty h e hc e1 e2 (fun l hl => hstr l hl) hk) hv
      . have e1 : c.args = #[s, x] := by apply Array.ext'; simpa using e1
        have e2 : c.argTypes = #[t, t'] := by apply Array.ext'; simpa using e2
        split at hk
        . exact wp_of_yield hn (appStr_sound hE.ty h e hc e1 e2 hk) hv
        . exact wp_of_yield hn (appMk_sound hE.ty h e hc e1 e2 hk) hv
        . exact hk.elim
    . exact hk.elim
  . rename_i hc
    split at hk
    . rename_i x t e1 e2
      have e1 : c.args = #[x] := by apply Array.ext'; simpa using e1
      have e2 : c.argTypes = #[t] := by apply Array.ext'; simpa using e2
      exact wp_of_yield hn (capOf_sound hE h e hc e1 e2 hk) hv
    . exact hk.elim
  . rename_i f hc
    split at hk
    . rename_i cs hf
      refine enter f cs _ (c.args.toList.map a.eval) hf hk (evs_rel h _) ?_
      unfold execOp
      rw [e]
      simp only [resolve, hc, Act.eval, Deferred.ofValue, Sem.run_bind, Sem.run_pure, Result.andThen_ok, invoke]
      rw [show (#[] ++ c.args.map a.eval ++ #[]) = c.args.map a.eval by simp]
      rw [← List.map_toArray, Array.toArray_toList]
    . exact hk.elim
  . rename_i x hnf hc
    split at hk
    . rename_i f cap hx
      have hxr := ev_rel h x
      rw [hx] at hxr
      obtain ⟨cvs, hxe, hcr⟩ := hxr
      split at hk
      . rename_i cs hf
        refine enter f cs _ (c.args.toList.map a.eval ++ cvs) hf hk (rels_append (evs_rel h _) hcr) ?_
        unfold execOp
        rw [e]
        simp only [resolve, hc, hxe, Deferred.ofValue, Sem.run_bind, Sem.run_pure, Result.andThen_ok, invoke]
        rw [show (#[] ++ c.args.map a.eval ++ cvs.toArray) = (c.args.toList.map a.eval ++ cvs).toArray by
          apply Array.ext'
          simp]
      . exact hk.elim
    . rename_i hx
      have hxr := ev_rel h x
      rw [hx] at hxr
      have hxr : a.eval x = .func (.yield B.lp) #[] #[] := hxr
      split at hk
      . rename_i hd hh
        obtain ⟨hr, hyo⟩ := hy hd hh
        obtain ⟨fn, tmps, assign, body, h1, h2⟩ := hyo _ _ _ _ _ a w _ hk h (evs_rel h _)
        refine L.round hr hn (w' := w) (l := B.lp) (f := fn) (tmps := tmps) (assign := assign) (body := body) ?_ (h2.mono fun en w' hw => ?_)
        . unfold execOp
          rw [e]
          simp only [resolve, hc, hxr, Deferred.ofValue, Sem.run_bind, Sem.run_pure, Result.andThen_ok, invoke]
          rw [← h1, show (#[] ++ c.args.map a.eval) = (c.args.toList.map a.eval).toArray by
            apply Array.ext'
            simp]
        . cases en with
          | returned v => obtain ⟨s, st', ρ', h1, h2, h3⟩ := hw; exact hv _ _ _ _ _ h1 h2 h3
          | panicked ch => obtain ⟨v, s, st', ρ', rfl, h1, h2, h3⟩ := hw; exact hp _ _ _ _ _ h1 h2 h3
          | outgrown => exact hw.elim
      . exact hk.elim
    . rename_i f hx
      have hxr := ev_rel h x
      rw [hx] at hxr
      obtain ⟨hone, heach⟩ := hk
      have key : ∀ {l : List Nat}, isOne f l → callEach E.fns f (c.args.toList.map st.ev) st kv kp l → ∃ g cs, f = g + 1 ∧ E.fns g = some cs ∧ cs (c.args.toList.map st.ev) st kv kp := by
        intro l
        induction l with
        | nil => intro h1 _; exact h1.elim
        | cons g l ih =>
          intro h1 h2
          by_cases hf : f = g + 1
          . have h3 := h2.1 hf
            split at h3
            . rename_i cs hcs; exact ⟨g, cs, hf, hcs, h3⟩
            . exact h3.elim
          . exact ih (h1.resolve_left hf) h2.2
      obtain ⟨g, cs, rfl, hf, hcs⟩ := key hone heach
      rcases VRep_fn.1 hxr with ⟨h0, _⟩ | ⟨n, h0, hxe⟩
      . cases h0
      cases h0
      refine enter g cs _ (c.args.toList.map a.eval) hf hcs (evs_rel h _) ?_
      unfold execOp
      rw [e]
      simp only [resolve, hc, hxe, Deferred.ofValue, Sem.run_bind, Sem.run_pure, Result.andThen_ok, invoke]
      rw [show (#[] ++ c.args.map a.eval ++ #[]) = (c.args.toList.map a.eval).toArray by
        apply Array.ext'
        simp]
    . exact hk.elim
  . exact hk.elim
theorem lookup_mem {t : Nat} {b : Bool} : ∀ {l : List (Nat × Bool)}, l.lookup t = some b → (t, b) ∈ l
  | [], h => by cases h
  | (i, c) :: l, h => by
    by_cases e : t = i
    . subst e
      simp [List.lookup] at h
      subst h
      exact List.mem_cons_self
    . have : (t == i) = false := by simp [e]
      simp only [List.lookup, this] at h
      exact List.mem_cons_of_mem _ (lookup_mem h)
theorem ungate_rel : ∀ (l : List Operand) {st : St}, StRel B ρ st a fs w → (∀ p ∈ (st.ungate l).1, p) → StRel B ρ (st.ungate l).2 a fs w
  | [], st, h, _ => h
  | .const _ :: l, st, h, hp => ungate_rel l h hp
  | .func _ :: l, st, h, hp => ungate_rel l h hp
  | .global _ :: l, st, h, hp => ungate_rel l h hp
  | .tmp t :: l, st, h, hp => by
    simp only [St.ungate] at hp ⊢
    split at hp
    . rename_i p s e
      refine ungate_rel l (st := { st with sl := (t, s) :: st.sl }) ⟨h.h, ⟨h.s.1, fun i s' hs => ?_⟩, h.kn, h.k, h.d, h.g⟩ (fun q hq => hp q (List.mem_cons_of_mem _ hq))
      simp only at hs
      rw [lookup_cons] at hs
      split at hs
      . rename_i ei
        cases hs
        subst ei
        obtain ⟨h1, h2⟩ := h.s.2 i _ e
        exact ⟨h1, h2.1 (hp _ List.mem_cons_self)⟩
      . exact h.s.2 i s' hs
    . exact ungate_rel l h hp
theorem vcOp'_sound (hE : E.Ok gl) (hB : B.gl = gl) (hy : ∀ hd, E.yld = some hd → rnd ∧ YieldOk E.P B fs hd) (h : StRel B ρ st a fs w) {o : Oper} (hk : vcOp' E st o kv kp) {next : Act → World → Prop} {Q : Exit → Act → World → Prop}
    (hv : ∀ s st' ρ' v w', kv s st' → StRel B ρ' st' a fs w' → s.rel (cx B ρ' st'.hp w') v → next (a.put o.dst v) w')
    (hp : ∀ s st' ρ' v w', kp s st' → StRel B ρ' st' a fs w' → s.rel (cx B ρ' st'.hp w') v → Q (.panic [{ v := v, recovered := false }]) a w') : L.W o a w next Q := by
  unfold vcOp' at hk
  split at hk
  . rename_i t x e; exact wp_of_yield (fun c h => by rw [e] at h; cases h) (box_sound h e hk) hv
  . rename_i t e; exact wp_of_yield (fun c h => by rw [e] at h; cases h) (alloc_sound hE.ty h e hk) hv
  . rename_i t parts e
    split at hk
    . exact wp_of_yield (fun c h => by rw [e] at h; cases h) (buildK_sound hE.ty h e hk) hv
    . exact wp_of_yield (fun c h => by rw [e] at h; cases h) (build_sound hE.ty h e hk) hv
  . rename_i t n parts e; exact wp_of_yield (fun c h => by rw [e] at h; cases h) (buildSlice_sound hE.ty h e hk) hv
  . rename_i t ad x e
    obtain ⟨h2, h3⟩ := conj_all hk
    obtain ⟨h4, h5⟩ := conj_all h3
    exact wp_of_yield (fun c h => by rw [e] at h; cases h) (store_sound hE.ty h e (g_rel h ad h2) (g_rel h x h4) h5) hv
  . rename_i c x y e
    split at hk
    . rename_i b hb
      have hc := ev_rel h c
      rw [hb] at hc
      have hc := VRep_bool.1 hc
      have hrun : (execOp a.eval o).run E.P w = .ok (.value (if b then a.eval x else a.eval y)) w := by
        unfold execOp
        rw [e]
        simp only [hc]
        rfl
      refine L.val (fun c h => by rw [e] at h; cases h) hrun ?_
      cases b with
      | true =>
        obtain ⟨h1, h2⟩ := conj_all (hk.1 rfl)
        exact hv _ _ _ _ _ h2 h (g_rel h x h1)
      | false =>
        obtain ⟨h1, h2⟩ := conj_all (hk.2 rfl)
        exact hv _ _ _ _ _ h2 h (g_rel h y h1)
    . exact hk.elim
  . rename_i src dst x e
    split at hk
    . exact wp_of_yield (fun c h => by rw [e] at h; cases h) (toRow_sound hE h e hk) hv
    . exact wp_of_yield (fun c h => by rw [e] at h; cases h) (toBytes_sound hE h e hk) hv
  . rename_i t l c e; exact wp_of_yield (fun c h => by rw [e] at h; cases h) (make_sound hE.ty h e hk) hv
  . rename_i t e; exact wp_of_yield (fun c h => by rw [e] at h; cases h) (mkMap_sound h e hk) hv
  . rename_i t m k x e; exact wp_of_yield (fun c h => by rw [e] at h; cases h) (insertM_sound hE.ty h e hk) hv
  . rename_i op ty x y yt e; exact wp_of_yield (fun c h => by rw [e] at h; cases h) (eqNil_sound hE h e hk) hv
  . rename_i x e
    split at hk
    . rename_i t s hx
      have hxr := ev_rel h x
      rw [hx] at hxr
      have hxr' := hxr
      obtain ⟨u, hu, _⟩ := hxr
      have hrun : (execOp a.eval o).run E.P w = .halt (.panic (a.eval x)) w := by
        unfold execOp
        rw [e]
        dsimp only
        rw [hu]
        rfl
      exact L.panic (fun c h => by rw [e] at h; cases h) hrun (hp _ _ _ _ _ hk h hxr')
    . exact hk.elim
  . rename_i c e; exact vcCall_sound hE hB hy h e hk hv hp
  . rename_i t x e; exact wp_of_yield (fun c h => by rw [e] at h; cases h) (range_sound hE h e hk) hv
  . rename_i x e; exact wp_of_yield (fun c h => by rw [e] at h; cases h) (next_sound h e hk) hv
  . rename_i x e; exact wp_of_yield (fun c h => by rw [e] at h; cases h) (nextM_sound h e hk) hv
  . exact hk.elim
theorem op1_nd {E : Ty} {o : Oper} {r : List Prop × SV} (h : st.op1 E o = some r) : ∀ c, o.op ≠ .defer c := by
  intro c e
  unfold St.op1 St.op1a St.op2 at h
  rw [e] at h
  cases h
theorem picked_nd {o : Op} {r : Operand} (h : st.picked o = some r) : ∀ c, o ≠ .defer c := by
  intro c e
  rw [e] at h
  cases h
theorem vcOp_sound (hE : E.Ok gl) (hB : B.gl = gl) (hy : ∀ hd, E.yld = some hd → rnd ∧ YieldOk E.P B fs hd) (h : StRel B ρ st a fs w) {o : Oper} (hk : vcOp E st o kv kp) {next : Act → World → Prop} {Q : Exit → Act → World → Prop}
    (hv : ∀ s st' ρ' v w', kv s st' → StRel B ρ' st' a fs w' → s.rel (cx B ρ' st'.hp w') v → next (a.put o.dst v) w')
    (hp : ∀ s st' ρ' v w', kp s st' → StRel B ρ' st' a fs w' → s.rel (cx B ρ' st'.hp w') v → Q (.panic [{ v := v, recovered := false }]) a w') : L.W o a w next Q := by
  unfold vcOp at hk
  split at hk
  . rename_i x e
    obtain ⟨h1, h2⟩ := conj_all hk
    have hrun : (execOp a.eval o).run E.P w = .ok (.value (a.eval x)) w := by
      unfold St.picked at e
      split at e
      . rename_i t x' y' eo
        split at e
        . rename_i ek
          cases e
          have := (h.kn t true (lookup_mem ek)).2
          unfold execOp
          rw [eo]
          simp only [Act.eval, this]
          rfl
        . rename_i ek
          cases e
          have := (h.kn t false (lookup_mem ek)).2
          unfold execOp
          rw [eo]
          simp only [Act.eval, this]
          rfl
        . cases e
      . cases e
    exact L.val (picked_nd e) hrun (hv _ _ _ _ _ h2 h (g_rel h x h1))
  . split at hk
    . rename_i obs s h1
      obtain ⟨h2, h3⟩ := conj_all hk
      obtain ⟨v, h4, h5⟩ := op1_sound hE.ty h h1 h2
      exact L.val (op1_nd h1) h4 (hv _ _ _ _ _ h3 h h5)
    . obtain ⟨h2, h3⟩ := conj_all hk
      exact vcOp'_sound hE hB hy (ungate_rel _ h h2) h3 hv hp
end
end Go.Vc
end
section
namespace Go.Vc
open Go.RowKit
def Free (P : Program) {α : Type} (m : Sem α) : Prop := (∃ v, ∀ w, m.run P w = .ok v w) ∨ ∀ w v w', m.run P w ≠ .ok v w'
section
variable {P : Program} {α β : Type}
theorem Free.pure (v : α) : Free P (Pure.pure v : Sem α) := .inl ⟨v, fun _ => rfl⟩
theorem Free.bind {m : Sem α} {f : α → Sem β} (hm : Free P m) (hf : ∀ v, Free P (f v)) : Free P (m >>= f) := by
  rcases hm with ⟨v, hv⟩ | hn
  . rcases hf v with ⟨u, hu⟩ | hn
    . exact .inl ⟨u, fun w => by rw [Sem.run_bind, hv w, Result.andThen_ok, hu w]⟩
    . exact .inr fun w u w' => by rw [Sem.run_bind, hv w, Result.andThen_ok]; exact hn w u w'
  . refine .inr fun w u w' => ?_
    rw [Sem.run_bind]
    cases h : m.run P w with
    | ok v w2 => exact absurd h (hn w v w2)
    | halt x w2 => intro hc; cases hc
theorem Free.stuck (s : String) : Free P (stuck s : Sem α) := .inr fun w v w' h => by cases h
theorem Free.unsupported (u : Unsupported) : Free P (unsupported u : Sem α) := .inr fun w v w' h => by cases h
theorem Free.program : Free P program := .inl ⟨P, fun _ => rfl⟩
theorem Free.underlying (t : TypeId) : Free P (underlying t) := by
  unfold Go.underlying
  refine Free.program.bind fun p => ?_
  split
  . exact .pure _
  . exact .stuck _
theorem Free.sizeOf (t : TypeId) : Free P (sizeOf t) := by
  unfold Go.sizeOf Go.typeInfo
  refine Free.bind (Free.program.bind fun p => ?_) fun i => .pure _
  split
  . exact .pure _
  . exact .stuck _
theorem Free.asIntOf (v : Value) : Free P (asIntOf v) := by
  unfold Go.asIntOf
  split
  . exact .pure _
  . exact .unsupported _
  . exact .stuck _
theorem Free.sureAddr (v : Value) : Free P (Instr.sureAddr v) := by
  unfold Instr.sureAddr
  split
  . exact .pure _
  . exact .stuck _
theorem never_bind {m : Sem α} {f : α → Sem β} (hf : ∀ v w u w', (f v).run P w ≠ .ok u w') : Free P (m >>= f) := .inr fun w u w' => by
  rw [Sem.run_bind]
  cases h : m.run P w with
  | ok v w2 => exact hf v w2 u w'
  | halt x w2 => intro hc; cases hc
theorem never_goPanic (v : Value) (w : World) (u : α) (w' : World) : (goPanic v : Sem α).run P w ≠ .ok u w' := by
  intro h
  cases h
theorem never_runtimePanic_bounds (x y : Int) (s : Bool) (c : BoundsCode) (w : World) (u : α) (w' : World) : (runtimePanic (.bounds x y s c) : Sem α).run P w ≠ .ok u w' := by
  unfold Go.runtimePanic
  rw [Sem.run_bind, run_program, Result.andThen_ok]
  exact never_goPanic _ _ _ _
theorem Free.boundsPanic (k : IntKind) (x y : Int) (c : BoundsCode) : Free P (boundsPanic k x y c : Sem α) := by
  unfold Go.boundsPanic
  dsimp only
  split
  . exact never_bind fun s w u w' => never_runtimePanic_bounds _ _ _ _ _ _ _
  . exact never_bind fun s w u w' => never_runtimePanic_bounds _ _ _ _ _ _ _
theorem Free.place (t : TypeId) (base : Option Addr) (len : Nat) (elem : TypeId) (k : IntKind) (i : Int) : Free P (do
    let tiny := len ≤ 1 && (match ← Go.underlying t with | .array .. => true | _ => false)
    match base with
    | some a =>
      if 0 ≤ i ∧ i < len then Pure.pure (Value.pointer (some (a.add (i.toNat * (← Go.sizeOf elem)))))
      else if tiny then Go.unsupported (.noEntry "op/indexAddr.an index out of range at an array of length 0 or 1 (ledger 616)")
      else Go.boundsPanic k i len .index
    | none => Go.boundsPanic k i 0 .index : Sem Value) := by
  refine (Free.underlying t).bind fun d => ?_
  dsimp only
  split
  . split
    . exact (Free.sizeOf _).bind fun s => .pure _
    . split <;> split
      . exact .unsupported _
      . exact .boundsPanic _ _ _ _
      . exact .unsupported _
      . exact .boundsPanic _ _ _ _
  . exact .boundsPanic _ _ _ _
theorem Free.indexAt (t : TypeId) (x i : Value) : Free P (Instr.indexAt t x i) := by
  unfold Instr.indexAt
  refine (Free.asIntOf i).bind fun ki => ?_
  obtain ⟨k, j⟩ := ki
  refine (Free.underlying t).bind fun d => ?_
  dsimp only
  split
  . refine Free.bind (Free.sureAddr _) fun a => Free.bind (.pure _) fun r => ?_
    obtain ⟨b, l, e⟩ := r
    exact Free.place t b l e k j
  . exact Free.place t _ _ _ k j
  . exact Free.bind (.stuck _) fun r => Free.place t _ _ _ k j
end
theorem Free.fieldAt {E : Ty} (hE : E.Ok) {t f ft off z : Nat} (e1 : fieldOf E t f = some (ft, off)) (hz : E.sz ft = some (z + 1)) (v : Value) : Free E.P (Instr.fieldAt t v f) := by
  obtain ⟨fields, h1, g, h2, h3, h4⟩ := field_of hE e1
  obtain ⟨inf, hi, hsz, _⟩ := hE.sz hz
  have run : ∀ w, (Instr.fieldAt t v f).run E.P w = (Instr.sureAddr v >>= fun a => Pure.pure (Value.pointer (some (a.add off)))).run E.P w := by
    intro w
    simp only [Instr.fieldAt, Sem.run_bind, run_underlying h1, Result.andThen_ok, h2]
    congr 1
    funext a w'
    simp only [Sem.run_bind, Sem.run_pure, fieldPlace, h3, run_sizeOf hi, hsz, h4, Result.andThen_ok]
    simp
  have fr : Free E.P (Instr.sureAddr v >>= fun a => Pure.pure (Value.pointer (some (a.add off)))) := (Free.sureAddr v).bind fun a => .pure _
  rcases fr with ⟨u, hu⟩ | hn
  . exact .inl ⟨u, fun w => by rw [run, hu w]⟩
  . exact .inr fun w u w' => by rw [run]; exact hn w u w'
def pureOp (E : Ty) (o : Oper) : Bool :=
  match o.op with
  | .indexAddr .. => true
  | .fieldAddr t _ f => match fieldOf E t f with
    | some (ft, _) => match E.sz ft with
      | some (_ + 1) => true
      | _ => false
    | none => false
  | _ => false
theorem Free.value {P : Program} {m : Sem Value} (h : Free P m) : (∃ v, ∀ w, (do Pure.pure (Next.value (← m)) : Sem Next).run P w = .ok (.value v) w) ∨ ∀ w n w', (do Pure.pure (Next.value (← m)) : Sem Next).run P w ≠ .ok n w' := by
  rcases h with ⟨v, hv⟩ | hn
  . exact .inl ⟨v, fun w => by rw [Sem.run_bind, hv w, Result.andThen_ok]; rfl⟩
  . refine .inr fun w n w' => ?_
    rw [Sem.run_bind]
    cases h : m.run P w with
    | ok v w2 => exact absurd h (hn w v w2)
    | halt x w2 => intro hc; cases hc
theorem pureOp_free {E : Ty} (hE : E.Ok) {o : Oper} (h : pureOp E o = true) (ρ : Operand → Value) : (∃ v, ∀ w, (execOp ρ o).run E.P w = .ok (.value v) w) ∨ ∀ w n w', (execOp ρ o).run E.P w ≠ .ok n w' := by
  unfold pureOp at h
  split at h
  . rename_i t x i e
    unfold execOp
    rw [e]
    exact (Free.indexAt t _ _).value
  . rename_i t x f e
    unfold execOp
    rw [e]
    split at h
    . rename_i ft off e1
      split at h
      . rename_i z e2
        exact (Free.fieldAt hE e1 e2 _).value
      . cases h
    . cases h
  . cases h
def okInt : BinOp → Bool
  | .add | .sub | .mul | .eql | .neq | .lss | .leq | .gtr | .geq => true
  | _ => false
def pureIntG (E : Ty) (o : Oper) : Bool :=
  match o.op with
  | .binOp op t _ _ _ => okInt op && (match E.d t with | .int _ => true | _ => false)
  | .convert s d _ => match E.d s, E.d d with
    | .int _, .int _ => true
    | _, _ => false
  | _ => false
def pureInt (E : Ty) (o : Oper) : Bool := o.guard.isNone && pureIntG E o
def isInt : SV → Bool
  | .dat (.int _) _ => true
  | .cst (.int _ _) => true
  | _ => false
def intArgs (st : St) (o : Oper) : Bool :=
  match o.op with
  | .binOp _ _ x y _ => isInt (st.ev x) && isInt (st.ev y)
  | .convert _ _ x => isInt (st.ev x)
  | _ => false
theorem isInt_rel {C : Cx} {s : SV} {v : Value} (h : isInt s = true) (hr : s.rel C v) : ∃ k n, v = .int k n := by
  unfold isInt at h
  split at h
  . exact ⟨_, _, (VRep_int.1 hr).1⟩
  . exact ⟨_, _, hr⟩
  . cases h
theorem Free.eqGuardInt {P : Program} (op : BinOp) (t : TypeId) (x y : Operand) (k k' : IntKind) (n m : Int) : Free P (eqGuard op t x y (.int k n) (.int k' m)) := by
  unfold Go.eqGuard
  cases op <;> exact .pure _
theorem Free.binInt {P : Program} {op : BinOp} (h : okInt op = true) (t : TypeId) (k k' : IntKind) (n m : Int) : Free P (binOp op t (.int k n) (.int k' m)) := by
  cases op <;> simp only [okInt, Bool.false_eq_true] at h <;> unfold Go.binOp <;> dsimp only <;> split <;> first | exact Free.stuck _ | exact Free.pure _
theorem pureInt_free {E : Ty} (hE : E.Ok) {o : Oper} (h : pureInt E o = true) {B : Base} {ρ : Nat → Value} {st : St} {a : Act} {fs : List Act} {w : World} (hr : StRel B ρ st a fs w) (hi : intArgs st o = true) :
    (∃ v, ∀ w, (execOp a.eval o).run E.P w = .ok (.value v) w) ∨ ∀ w n w', (execOp a.eval o).run E.P w ≠ .ok n w' := by
  unfold pureInt at h
  rw [Bool.and_eq_true] at h
  have h := h.2
  unfold pureIntG at h
  unfold intArgs at hi
  split at h
  . rename_i op t x y z e
    rw [e] at hi
    simp only [Bool.and_eq_true] at h hi
    obtain ⟨k, n, hx⟩ := isInt_rel hi.1 (ev_rel hr x)
    obtain ⟨k', m, hy⟩ := isInt_rel hi.2 (ev_rel hr y)
    unfold execOp
    rw [e]
    simp only [hx, hy]
    exact (Free.bind (Free.eqGuardInt op t x y k k' n m) fun _ => Free.binInt h.1 t k k' n m).value
  . rename_i s d x e
    rw [e] at hi
    simp only at hi
    obtain ⟨k, n, hx⟩ := isInt_rel hi (ev_rel hr x)
    split at h
    . rename_i k1 k2 e1 e2
      have hs := hE.d s
      rw [e1] at hs
      have hd := hE.d d
      rw [e2] at hd
      unfold execOp
      rw [e]
      simp only [hx]
      have hs : E.P.underlying s = some (.int k1) := hs
      have hd : E.P.underlying d = some (.int k2) := hd
      refine Free.value (.inl ⟨.int k2 (k2.wrap n), fun w => ?_⟩)
      simp only [Go.convert, Sem.run_bind, run_underlying hs, run_underlying hd, Result.andThen_ok]
      rfl
    . cases h
  . cases h
end Go.Vc
end
section
namespace Go.Vc
open Go.RowKit
def HOLD : Nat := 3000000
def heldSlot (own : List Nat) : Option Nat := match own.find? fun i => Nat.ble HOLD i with
  | some i => some (i - HOLD)
  | none => none
def heldLd (ops : Array Oper) (x : Nat) (o : Oper) : Bool :=
  match o.op with
  | .load _ (.tmp y) => Nat.beq y x || ops.toList.any fun p => match p.op, p.dst with
    | .fieldAddr _ (.tmp z) _, some d => Nat.beq z x && Nat.beq d y
    | _, _ => false
  | _ => false
def auxSl : Nat → List SV → Slots
  | _, [] => []
  | i, s :: l => (i, s) :: auxSl (i + 1) l
def auxC (sl : Slots) : Nat → Nat → List SV
  | _, 0 => []
  | i, k + 1 => (match sl.lookup i with
    | some s => s
    | none => .junk) :: auxC sl (i + 1) k
def heldOf (own : List Nat) (st : St) : Option (Nat × Nat × List SV) :=
  match heldSlot own with
  | none => none
  | some x => match st.sl.lookup x, st.ls with
    | some (.ptr n 0), .no => match st.hp[n]? with
      | some (some (.var t cs)) => some (n, t, cs)
      | _ => none
    | _, _ => none
def St.hold (st : St) (n : Nat) (cs : List SV) : St := { st with hp := st.hp.set n none, stk := (auxSl 0 (.ptr n 0 :: cs), []) :: st.stk }
def St.unhold (st : St) (n t len : Nat) (kn : St → Prop) : Prop :=
  match st.ls, st.stk with
  | .no, (sl, _) :: r => match sl.lookup 0 with
    | some (.ptr m 0) => if m = n then kn { st with stk := r, hp := st.hp.set n (some (.var t (auxC sl 1 len))) } else False
    | _ => False
  | _, _ => False
def St.heldLoad (E : Ty) (st : St) (n len ty : Nat) (s : SV) : Option SV :=
  match s, st.stk with
  | .ptr m o, (sl, _) :: _ => match sl.lookup 0, E.sz ty with
    | some (.ptr m' 0), some z => if m = n ∧ m' = n then ofCells E ty (((auxC sl 1 len).drop o).take z) else none
    | _, _ => none
  | _, _ => none
section
variable {B : Base} {ρ : Nat → Value} {st : St} {a : Act} {fs : List Act} {w : World}
theorem aux_rel {C : Cx} {all : Array Value} : ∀ {l : List SV} {vs : List Value} (i : Nat), SV.rels C l vs → (∀ (j : Nat) (v : Value), vs[j]? = some v → all[i + j]? = some v) →
    ∀ k s, (auxSl i l).lookup k = some s → k < all.size ∧ s.rel C (all.getD k undef)
  | [], _, _, _, _, k, s, h => by cases h
  | s0 :: l, vs, i, hr, ha, k, s, h => by
    obtain ⟨v, r, rfl, h1, h2⟩ := hr
    simp only [auxSl] at h
    rw [lookup_cons] at h
    split at h
    . rename_i e
      cases h
      subst e
      have := ha 0 v rfl
      rw [Nat.add_zero] at this
      obtain ⟨hlt, hv⟩ := Array.getElem?_eq_some_iff.1 this
      exact ⟨hlt, by rw [Array.getD_eq_getD_getElem?, this]; exact h1⟩
    . exact aux_rel (i + 1) h2 (fun j u hu => by rw [Nat.add_assoc, Nat.add_comm 1 j]; exact ha (j + 1) u hu) k s h
theorem auxC_rel {C : Cx} {sl : Slots} {tmps : Array Value} (hs : ∀ i s, sl.lookup i = some s → i < tmps.size ∧ s.rel C (tmps.getD i undef)) : ∀ (vs : List Value) (i : Nat),
    (∀ (j : Nat) (v : Value), vs[j]? = some v → tmps.getD (i + j) undef = v) → SV.rels C (auxC sl i vs.length) vs
  | [], _, _ => rfl
  | v :: vs, i, h => by
    refine ⟨v, vs, rfl, ?_, auxC_rel hs vs (i + 1) fun j u hu => by rw [Nat.add_assoc, Nat.add_comm 1 j]; exact h (j + 1) u hu⟩
    cases e : sl.lookup i with
    | some s =>
      have := (hs i s e).2
      rw [← h 0 v rfl, Nat.add_zero]
      exact this
    | none => trivial
theorem hold_sound (h : StRel B ρ st a fs w) {n t : Nat} {cs : List SV} (hls : st.ls = .no) (hn : st.hp[n]? = some (some (.var t cs))) :
    ∃ (B' : Base) (f : Act) (b : Nat) (vs : List Value), B'.gl = B.gl ∧ StRel B' ρ (st.hold n cs) a (f :: fs) w ∧ vs.length = cs.length ∧ w.heap[b]? = some (.cells vs.toArray t (0, 0)) ∧
      (∀ ρ' st2 a2 fs2 w2, StRel B' ρ' st2 a2 fs2 w2 → w2.heap[b]? = w.heap[b]?) ∧
      (∀ ρ' st2 a2 w2 sl df r, StRel B' ρ' st2 a2 (f :: fs) w2 → st2.stk = (sl, df) :: r → sl.lookup 0 = some (.ptr n 0) →
        n < st2.hp.length ∧ ρ' n = .pointer (some ⟨b, 0, none⟩) ∧ SV.rels (cx B' ρ' st2.hp w2) (auxC sl 1 cs.length) vs ∧ (cx B' ρ' st2.hp w2).le (cx B ρ' (st2.hp.set n (some (.var t (auxC sl 1 cs.length)))) w2) ∧
        (cx B ρ' (st2.hp.set n (some (.var t (auxC sl 1 cs.length)))) w2).le (cx B' ρ' st2.hp w2) ∧
        (st2.ls = .no → StRel B ρ' { st2 with stk := r, hp := st2.hp.set n (some (.var t (auxC sl 1 cs.length))) } a2 fs w2)) := by
  have hlive : live st.hp n := ⟨_, hn⟩
  have hnl := live_lt hlive
  obtain ⟨b, vs, hρ, hblk, hcs⟩ := h.h.obj n _ hn
  have hlen : vs.length = cs.length := by
    have : ∀ {l : List SV} {us : List Value}, SV.rels (cx B ρ st.hp w) l us → us.length = l.length := by
      intro l
      induction l with
      | nil => intro us h; have h : us = [] := h; rw [h]; rfl
      | cons s l ih => intro us h; obtain ⟨v, r, rfl, _, h2⟩ := h; simp [ih h2]
    exact this hcs
  have hbn : blk (ρ n) = some b := by rw [hρ]; rfl
  have hbw : b < w.heap.size := (Array.getElem?_eq_some_iff.1 hblk).1
  have hls0 : B.alt st.ls = B.alt .no := by rw [hls]
  have h2live : ∀ m, live (st.hp.set n none) m → live st.hp m ∧ m ≠ n := by
    rintro m ⟨o, ho⟩
    by_cases e : m = n
    . subst e
      rw [List.getElem?_set_self hnl] at ho
      cases ho
    . rw [List.getElem?_set_ne (Ne.symm e)] at ho
      exact ⟨⟨o, ho⟩, e⟩
  have hlive2 : ∀ m, live st.hp m → m ≠ n → live (st.hp.set n none) m := by
    rintro m ⟨o, ho⟩ e
    exact ⟨o, by rw [List.getElem?_set_ne (Ne.symm e)]; exact ho⟩
  let S' : Nat → Prop := fun b => ∃ m, live (st.hp.set n none) m ∧ blk (ρ m) = some b
  let Fb' : Nat → Prop := fun c => B.Fb c ∨ c = b
  have hForb : ∀ c, (Fb' c ∨ S' c) → Forb B ρ st.hp c := by
    rintro c ((hc | rfl) | ⟨m, hm, hmc⟩)
    . exact .inl hc
    . exact .inr ⟨n, hlive, hbn⟩
    . exact .inr ⟨m, (h2live m hm).1, hmc⟩
  let B' : Base := ⟨fun _ => w, S', Fb', B.lp, B.gl, fun _ => by
    have := h.gls
    rw [h.g] at this
    exact this.step (Nat.le_refl _) (fun _ _ _ => rfl) (fun c _ hc => hForb c hc)⟩
  have hF' : ∀ c, Forb B' ρ (st.hp.set n none) c → Forb B ρ st.hp c := by
    rintro c (hc | ⟨m, hm, hmc⟩)
    . exact hForb c (.inl hc)
    . exact hForb c (.inr ⟨m, hm, hmc⟩)
  have le0 : (cx B ρ st.hp w).le (cx B' ρ (st.hp.set n none) w) := ⟨Nat.le_refl _, fun _ _ _ => rfl, fun c _ hc => hF' c hc, by simp, fun _ _ => rfl, rfl⟩
  let f : Act := { tmps := (ρ n :: vs).toArray, defers := [] }
  have keepB : ∀ ρ' st2 a2 fs2 w2, StRel B' ρ' st2 a2 fs2 w2 → w2.heap[b]? = w.heap[b]? := by
    intro ρ' st2 a2 fs2 w2 h2
    refine h2.h.kept.block b hbw ?_
    rintro ⟨m, hm, hmb⟩
    obtain ⟨hm1, hm2⟩ := h2live m hm
    exact hm2 (h.h.sep m n b hm1 hlive hmb hbn)
  refine ⟨B', f, b, vs, rfl, ?_, hlen, hblk, keepB, ?_⟩
  . refine ⟨⟨Kept.refl _ _, ?_, ?_, ?_, ?_⟩, h.s.le le0, h.kn, ?_, h.d.le le0, h.g⟩
    . intro m o ho
      obtain ⟨hm1, hm2⟩ := h2live m ⟨o, ho⟩
      have ho' : st.hp[m]? = some (some o) := by
        have ho : (st.hp.set n none)[m]? = some (some o) := ho
        rwa [List.getElem?_set_ne (Ne.symm hm2)] at ho
      exact (h.h.obj m o ho').le le0 fun _ _ => rfl
    . intro m1 m2 c h1 h2 e1 e2
      exact h.h.sep m1 m2 c (h2live m1 h1).1 (h2live m2 h2).1 e1 e2
    . intro m c hm hc
      refine ⟨.inr ⟨m, hm, hc⟩, ?_⟩
      rintro (hf | rfl)
      . exact (h.h.own m c (h2live m hm).1 hc).2 hf
      . exact (h2live m hm).2 (h.h.sep m n c (h2live m hm).1 hlive hc hbn)
    . rintro c (hf | rfl)
      . refine ⟨Nat.lt_of_lt_of_le (h.h.fb c hf).1 h.h.kept.size, ?_⟩
        rintro ⟨m, hm, hmc⟩
        exact (h.h.own m c (h2live m hm).1 hmc).2 hf
      . refine ⟨hbw, ?_⟩
        rintro ⟨m, hm, hmc⟩
        exact (h2live m hm).2 (h.h.sep m n c (h2live m hm).1 hlive hmc hbn)
    . refine ⟨f, fs, rfl, ⟨rfl, ?_⟩, rfl, h.k.le le0⟩
      have hr : SV.rels (cx B ρ st.hp w) (.ptr n 0 :: cs) (ρ n :: vs) := ⟨_, _, rfl, ⟨hnl, b, hρ, hρ⟩, hcs⟩
      exact aux_rel 0 (hr.le le0) (fun j v hj => by
        show (ρ n :: vs).toArray[0 + j]? = some v
        simpa using hj)
  . intro ρ' st2 a2 w2 sl df r h2 hstk h0
    have hk := h2.k
    rw [hstk] at hk
    obtain ⟨f', fs', e, hsl, hdf, hrest⟩ := hk
    obtain ⟨rfl, rfl⟩ := List.cons.inj e
    obtain ⟨hn0, b', hρ', he⟩ := (hsl.2 0 _ h0).2
    have hn0 : n < st2.hp.length := hn0
    have hf0 : f.tmps.getD 0 undef = ρ n := rfl
    rw [hf0, hρ] at he
    simp only [Value.pointer.injEq, Option.some.injEq, Addr.mk.injEq, and_true] at he
    subst he
    have hρ' : ρ' n = .pointer (some ⟨b, 0, none⟩) := hρ'
    have hbn' : blk (ρ' n) = some b := by rw [hρ']; rfl
    have hcs' : SV.rels (cx B' ρ' st2.hp w2) (auxC sl 1 cs.length) vs := by
      rw [← hlen]
      refine auxC_rel hsl.2 vs 1 fun j v hj => ?_
      show (ρ n :: vs).toArray.getD (1 + j) undef = v
      rw [Array.getD_eq_getD_getElem?, Nat.add_comm]
      simp [hj]
    have hblk2 : w2.heap[b]? = some (.cells vs.toArray t (0, 0)) := by rw [keepB ρ' st2 a2 _ w2 h2]; exact hblk
    have hdead : ¬ live st2.hp n := fun hl => (h2.h.own n b hl hbn').2 (.inr rfl)
    generalize hob : Ob.var t (auxC sl 1 cs.length) = ob
    have l1 : ∀ m, live st2.hp m → live (st2.hp.set n (some ob)) m := by
      rintro m ⟨o, ho⟩
      have e : m ≠ n := fun e => hdead (e ▸ ⟨o, ho⟩)
      exact ⟨o, by rw [List.getElem?_set_ne (Ne.symm e)]; exact ho⟩
    have l2 : ∀ m, live (st2.hp.set n (some ob)) m → m = n ∨ live st2.hp m := by
      rintro m ⟨o, ho⟩
      by_cases e : m = n
      . exact .inl e
      . rw [List.getElem?_set_ne (Ne.symm e)] at ho
        exact .inr ⟨o, ho⟩
    have f1 : ∀ c, Forb B ρ' (st2.hp.set n (some ob)) c → Forb B' ρ' st2.hp c := by
      rintro c (hc | ⟨m, hm, hmc⟩)
      . exact .inl (.inl hc)
      . rcases l2 m hm with rfl | hm
        . rw [hbn'] at hmc; cases hmc; exact .inl (.inr rfl)
        . exact .inr ⟨m, hm, hmc⟩
    have f2 : ∀ c, Forb B' ρ' st2.hp c → Forb B ρ' (st2.hp.set n (some ob)) c := by
      rintro c ((hc | rfl) | ⟨m, hm, hmc⟩)
      . exact .inl hc
      . exact .inr ⟨n, ⟨ob, List.getElem?_set_self hn0⟩, hbn'⟩
      . exact .inr ⟨m, l1 m hm, hmc⟩
    have le1 : (cx B' ρ' st2.hp w2).le (cx B ρ' (st2.hp.set n (some ob)) w2) := ⟨Nat.le_refl _, fun _ _ _ => rfl, fun c _ hc => f1 c hc, by simp, fun _ _ => rfl, rfl⟩
    have le2 : (cx B ρ' (st2.hp.set n (some ob)) w2).le (cx B' ρ' st2.hp w2) := ⟨Nat.le_refl _, fun _ _ _ => rfl, fun c _ hc => f2 c hc, by simp, fun _ _ => rfl, rfl⟩
    refine ⟨hn0, hρ', hcs', le1, le2, fun hls2 => ?_⟩
    have hS0 : ∀ c, c < (B.alt .no).heap.size → S' c → B.S c := by
      rintro c hc ⟨m, hm, hmc⟩
      have := (h.h.own m c (h2live m hm).1 hmc).1
      rw [hls0] at this
      exact this.resolve_left (by omega)
    have hk0 := h.h.kept
    rw [hls0] at hk0
    refine ⟨⟨?_, ?_, ?_, ?_, ?_⟩, h2.s.le le1, h2.kn, hrest.le le1, h2.d.le le1, h2.g⟩
    . show Kept B.S (B.alt st2.ls) w2
      rw [hls2]
      exact hk0.trans h2.h.kept hS0
    . intro m o ho
      by_cases e : m = n
      . subst e
        have ho : (st2.hp.set m (some ob))[m]? = some (some o) := ho
        rw [List.getElem?_set_self hn0] at ho
        cases ho
        have hrel : (Ob.var t (auxC sl 1 cs.length)).rel (cx B ρ' (st2.hp.set m (some ob)) w2) (ρ' m) := ⟨b, vs, hρ', hblk2, hcs'.le le1⟩
        rw [hob] at hrel
        exact hrel
      . have ho : (st2.hp.set n (some ob))[m]? = some (some o) := ho
        rw [List.getElem?_set_ne (Ne.symm e)] at ho
        exact (h2.h.obj m o ho).le le1 fun _ _ => rfl
    . intro m1 m2 c h1 h3 e1 e2
      rcases l2 m1 h1 with g1 | g1
      . rcases l2 m2 h3 with g3 | g3
        . rw [g1, g3]
        . rw [g1, hbn'] at e1; cases e1
          exact absurd (.inr rfl) (h2.h.own m2 b g3 e2).2
      . rcases l2 m2 h3 with g3 | g3
        . rw [g3, hbn'] at e2; cases e2
          exact absurd (.inr rfl) (h2.h.own m1 b g1 e1).2
        . exact h2.h.sep m1 m2 c g1 g3 e1 e2
    . intro m c hm hc
      show ((B.alt st2.ls).heap.size ≤ c ∨ B.S c) ∧ ¬ B.Fb c
      rw [hls2]
      rcases l2 m hm with rfl | hm
      . rw [hbn'] at hc; cases hc
        have := h.h.own m b hlive hbn
        rwa [hls0] at this
      . obtain ⟨h3, h4⟩ := h2.h.own m c hm hc
        refine ⟨?_, fun hf => h4 (.inl hf)⟩
        rcases h3 with h3 | h3
        . have h3 : w.heap.size ≤ c := h3
          exact .inl (Nat.le_trans hk0.size h3)
        . obtain ⟨q, hq, hqc⟩ := h3
          have := (h.h.own q c (h2live q hq).1 hqc).1
          rwa [hls0] at this
    . show ∀ c, B.Fb c → c < (B.alt st2.ls).heap.size ∧ ¬ B.S c
      rw [hls2, ← hls0]
      exact h.h.fb
end
theorem heldLoad_sound {E : Ty} (hE : E.Ok) {C : Cx} {w0 : World} {b n t o ty z : Nat} {cs : List SV} {vs : List Value} {s' : SV} {v : Value} (hz : E.sz ty = some z)
    (hop : ofCells E ty ((cs.drop o).take z) = some s') (hcs : SV.rels C cs vs) (hρ : C.ρ n = .pointer (some ⟨b, 0, none⟩)) (hs : (SV.ptr n o).rel C v) (hb : w0.heap[b]? = some (.cells vs.toArray t (0, 0))) :
    ∃ v', (∀ w', w'.heap[b]? = w0.heap[b]? → (Instr.loadAt ty v).run E.P w' = .ok v' w') ∧ s'.rel C v' := by
  have hd := hE.d ty
  obtain ⟨hn, b', e2, rfl⟩ := hs
  rw [hρ] at e2
  simp only [Value.pointer.injEq, Option.some.injEq, Addr.mk.injEq, and_true] at e2
  subst e2
  obtain ⟨h3, ⟨z', h4, h5⟩, h6, h7⟩ := ofCells_rel hE hop (rels_take z (rels_drop o hcs))
  obtain ⟨inf, hi, hsz, _⟩ := hE.sz h4
  refine ⟨_, fun w' hw' => ?_, h7⟩
  simp only [Instr.loadAt, Instr.sureAddr, Sem.run_bind, Sem.run_pure, Result.andThen_ok]
  refine run_loadVar hd h3 hi (h5.trans hsz.symm) h6 (fun j u hu => ?_)
  rw [List.getElem?_take] at hu
  split at hu
  . rw [List.getElem?_drop] at hu
    rw [addr_add]
    simp only [World.cell?, hw', hb]
    simpa using hu
  . cases hu
end Go.Vc
end
