/- append, stores, text to bytes, make. -/
import Derived.Test.YtkdffofjnjamlaaDoorZVcEff
set_option linter.unusedVariables false
set_option linter.unusedSimpArgs false
namespace Go.Vc
open Go.RowKit

def castL {a b : Kd} (h : a = b) (x : List a.T) : List b.T := h ▸ x

theorem castL_len {a : Kd} (x : List a.T) : (castL rfl x).length = x.length := rfl

def conj : List Prop → Prop → Prop
  | [], k => k
  | p :: l, k => p ∧ conj l k

theorem conj_all : ∀ {l : List Prop} {k : Prop}, conj l k → (∀ p ∈ l, p) ∧ k
  | [], _, h => ⟨(fun p hp => by cases hp), h⟩
  | p :: l, k, h => by
    obtain ⟨h1, h2⟩ := conj_all h.2
    exact ⟨fun q hq => by
      rcases List.mem_cons.1 hq with rfl | hq
      · exact h.1
      · exact h1 q hq, h2⟩

/-- What an append starts from: a row of the walk's own, or nil. -/
def St.base (st : St) (e : Nat) (k : Kd) : SV → Option (List Prop × Option Nat × List k.T)
  | .own n => match st.hp[n]? with
    | some (some (.row e' k' xs)) => if h : k' = k then (if e' = e ∧ e < BIG then some ([], some n, castL h xs) else none) else none
    | _ => none
  | .sub n k'' off len => match st.hp[n]? with
    | some (some (.row e' k' xs)) => if h : k' = k then (if e' = e ∧ k'' = k ∧ e < BIG then some ([off = 0], some n, castL h (xs.take len)) else none) else none
    | _ => none
  | .cst c => if nilSlice c then some ([], none, []) else none
  | _ => none

def St.src (st : St) (k : Kd) : SV → Option (List k.T)
  | .cst c => if nilSlice c then some [] else none
  | .dat .str l => match k with | .int .u8 => some l | _ => none
  | s => match st.list s with
    | some ⟨k', xs⟩ => if h : k' = k then some (castL h xs) else none
    | none => none

def killOpt (hp : List (Option Ob)) : Option Nat → List (Option Ob)
  | some n => hp.set n none
  | none => hp

def St.append (E : Ty) (st : St) (t : Nat) (s x : SV) (kv : SV → St → Prop) : Prop :=
  match E.d t with
  | .sl e => match E.k e with
    | some k => match st.base e k s, st.src k x with
      | some (obs, n, xs), some ys => conj obs <| 0 < k.sz ∧ (xs.length + ys.length) * E.bytes e ≤ 140737488355328 ∧ xs.length + ys.length ≤ 9223372036854775807 ∧
          kv (.own st.hp.length) { st with hp := killOpt st.hp n ++ [some (.row e k (xs ++ ys))] }
      | _, _ => False
    | none => False
  | _ => False

section
variable {E : Ty} {B : Base} {ρ : Nat → Value} {st : St} {a : Act} {fs : List Act} {w : World} {kv : SV → St → Prop} {C : Cx}

/-- The cells of elements that are read. -/
theorem els_cells {α : Type} {rep : α → List Value → Prop} {sz : Nat} (hsz : ∀ x cs, rep x cs → cs.length = sz) {ad : Addr} : ∀ {xs : List α}, Els w rep sz ad xs →
    ∃ news : List Value, news.length = xs.length * sz ∧ (∀ j u, news[j]? = some u → w.cell? (ad.add j) = some u) ∧ ∀ i x, xs[i]? = some x → rep x ((news.drop (i * sz)).take sz)
  | [], _ => ⟨[], by simp, (fun j u h => by cases h), (fun i x h => by cases h)⟩
  | x :: xs, h => by
    obtain ⟨ecs, h1, h2⟩ := h 0 x rfl
    have hl := hsz _ _ h1
    obtain ⟨news, h3, h4, h5⟩ := els_cells (ad := ad.add sz) hsz (xs := xs) (fun i y hy => by
      obtain ⟨ecs, h6, h7⟩ := h (i + 1) y hy
      refine ⟨ecs, h6, fun j u hu => ?_⟩
      have := h7 j u hu
      rw [addr_add_add]
      rw [Nat.add_mul, Nat.one_mul] at this
      rw [show sz + (i * sz + j) = i * sz + sz + j by omega]
      exact this)
    refine ⟨ecs ++ news, by simp [h3, hl, Nat.add_mul]; omega, fun j u hu => ?_, fun i y hy => ?_⟩
    · by_cases hj : j < ecs.length
      · rw [List.getElem?_append_left hj] at hu
        have := h2 j u hu
        simpa using this
      · rw [List.getElem?_append_right (by omega)] at hu
        have := h4 _ u hu
        rw [addr_add_add] at this
        rw [show sz + (j - ecs.length) = j by omega] at this
        exact this
    · cases i with
      | zero =>
        cases hy
        rw [Nat.zero_mul, List.drop_zero, List.take_append_of_le_length (by omega), List.take_of_length_le (by omega)]
        exact h1
      | succ i =>
        have := h5 i y hy
        rw [Nat.add_mul, Nat.one_mul, List.drop_append, List.drop_of_length_le (by omega), List.nil_append, show i * sz + sz - ecs.length = i * sz by omega]
        exact this

theorem run_append_nothing {P : Program} {t ty e : Nat} {i : TypeInfo} {size : Nat} (ht : P.underlying t = some (.slice e)) (hi : P.info? e = some i)
    {v : Value} {n : Nat} {xs : List Value} (hown : w.ownsRow 0 e size v n xs) (c : Nat) : (Builtin.append_ #[t, t] ty #[v, .slice none 0 c]).run P w = .ok v w := by
  rcases hown.2 with ⟨rfl, rfl⟩ | ⟨g, cap, cur, rfl, _, _, hnc, _⟩
  · simp [Builtin.append_, run_underlying ht, sizeOf, typeInfo, hi, Builtin.lenOf, Builtin.firstCells]
  · simp [Builtin.append_, run_underlying ht, sizeOf, typeInfo, hi, Builtin.lenOf, Builtin.firstCells, hnc, storeCells]

/-- A source that is a slice. -/
theorem src_rel (h : StRel B ρ st a fs w) {s : SV} {v : Value} (hs : s.rel (cx B ρ st.hp w) v) {k : Kd} {ys : List k.T} (hx : st.src k s = some ys) (hstr : ∀ l, s ≠ .dat .str l) :
    ∃ (A : Option Addr) (c : Nat), v = .slice A ys.length c ∧ (ys ≠ [] → ∃ ad, A = some ad ∧ Els w (Rep w (Forb B ρ st.hp) k) k.sz ad ys) := by
  unfold St.src at hx
  split at hx
  · rename_i c
    split at hx
    · rename_i hn
      cases hx
      have hs : v = c := hs
      rw [hs, nilSlice_eq hn]
      exact ⟨none, 0, rfl, fun h => absurd rfl h⟩
    · cases hx
  · exact absurd rfl (hstr _)
  · split at hx
    · rename_i k' xs hl
      split at hx
      · rename_i e
        subst e
        cases hx
        obtain ⟨A, c, h1, _, _, h2⟩ := list_rel h hs hl
        refine ⟨A, c, h1, fun hne => ?_⟩
        obtain ⟨ad, h3, _, h4⟩ := h2 hne
        exact ⟨ad, h3, h4⟩
      · cases hx
    · cases hx

theorem base_relV (h : StRel B ρ st a fs w) {sx : SV} {v : Value} (hs : sx.rel (cx B ρ st.hp w) v) {e' : Nat} {k : Kd} {obs : List Prop} {n : Option Nat} {xs : List k.T} (hb : st.base e' k sx = some (obs, n, xs)) (hobs : ∀ p ∈ obs, p) :
    ∃ inner, w.ownsRow 0 e' k.sz v xs.length inner ∧ (∀ i x, xs[i]? = some x → Rep w (Forb B ρ st.hp) k x ((inner.drop (i * k.sz)).take k.sz)) ∧
            (∀ b, v.ownBlock = some b → ∃ m ob, n = some m ∧ st.hp[m]? = some (some ob) ∧ blk (ρ m) = some b) ∧ (∀ m, n = some m → ∃ ob, st.hp[m]? = some (some ob) ∧ ∀ b, v.ownBlock = some b → blk (ρ m) = some b) := by
  unfold St.base at hb
  split at hb
  · rename_i m
    split at hb
    · rename_i e0 k0 xs0 hob
      split at hb
      · rename_i hke
        subst hke
        split at hb
        · rename_i hee
          obtain ⟨rfl, hB⟩ := hee
          cases hb
          have := h.h.obj m _ hob
          obtain ⟨inner, h1, h2⟩ := this
          obtain ⟨_, h3, h4⟩ := hs
          rw [h3]
          have hblk : ∀ b, (ρ m).ownBlock = some b → blk (ρ m) = some b := by
            intro b hb
            obtain ⟨A, q, c, h4⟩ := h4
            have h4 : ρ m = .slice A q c := h3.symm.trans h4
            rw [h4] at hb ⊢
            cases A with
            | none => cases hb
            | some ad => exact hb
          exact ⟨inner, h1.low hB, h2, fun b hb => ⟨m, _, rfl, hob, hblk b hb⟩, fun m' hm' => by cases hm'; exact ⟨_, hob, hblk⟩⟩
        · cases hb
      · cases hb
    · cases hb
  · rename_i m k0 off len
    split at hb
    · rename_i e0 k1 xs0 hob
      split at hb
      · rename_i hke
        subst hke
        split at hb
        · rename_i hee
          obtain ⟨rfl, rfl, hB⟩ := hee
          cases hb
          have h00 : off = 0 := hobs _ (by simp)
          subst h00
          obtain ⟨inner, hrow0, h2⟩ := h.h.obj m _ hob
          obtain ⟨hl0, hh0⟩ := hrow0.low hB
          obtain ⟨_, A0, m', cap, A', c', e5, e6, e7, e8, e9, e10⟩ := hs
          have e10 : A' = A0 := by
            rcases e10 with e10 | e10
            · rw [e10, ← map_add0]
            · omega
          subst e10
          simp only at e5
          rw [e6]
          have hlen0 : (xs0.take len).length = len := by
            rcases hh0 with ⟨hh0, hn0⟩ | ⟨g, cp, cur, hh0, _⟩
            · rw [hh0] at e5; cases e5; simp; omega
            · rw [hh0] at e5; cases e5; simp; omega
          have hxs0 : m' = xs0.length := by
            rcases hh0 with ⟨hh0, hn0⟩ | ⟨g, cp, cur, hh0, _⟩
            · rw [hh0] at e5; cases e5; omega
            · rw [hh0] at e5; cases e5; rfl
          have hblk : ∀ b, (Value.slice A' len c').ownBlock = some b → blk (ρ m) = some b := by
            intro b hb
            rw [e5]
            cases A' with
            | none => cases hb
            | some ad => exact hb
          have hle : len * k0.sz ≤ xs0.length * k0.sz := Nat.mul_le_mul_right _ (by omega)
          refine ⟨inner.take (len * k0.sz), ⟨?_, ?_⟩, fun i x hx => ?_, fun b hb => ⟨m, _, rfl, hob, hblk b hb⟩, fun m2 hm2 => by cases hm2; exact ⟨_, hob, hblk⟩⟩
          · show (inner.take (len * k0.sz)).length = (xs0.take len).length * k0.sz
            rw [hlen0, List.length_take, hl0]; omega
          · show (Value.slice A' len c' = .slice none 0 0 ∧ (xs0.take len).length = 0) ∨ _
            rcases hh0 with ⟨hh0, hn0⟩ | ⟨g, cp, cur, hh0, h11, h12, h13, h14, h15, h16⟩
            · rw [hh0] at e5; cases e5
              left
              exact ⟨by congr 1 <;> omega, by rw [hlen0]; omega⟩
            · rw [hh0] at e5; cases e5
              right
              refine ⟨g, c', cur, by rw [castL_len, hlen0], h11, h12, by rw [castL_len, hlen0]; omega, by omega, by rw [h15]; congr 1; omega, ?_⟩
              rw [castL_len, hlen0, ← h16, List.take_take, Nat.min_eq_left (by omega)]
          · have hx : (xs0.take len)[i]? = some x := hx
            rw [List.getElem?_take] at hx
            split at hx
            · rename_i hil
              have h3 := h2 i x hx
              have h4 : (i + 1) * k0.sz ≤ len * k0.sz := Nat.mul_le_mul_right _ hil
              rw [List.drop_take, List.take_take, Nat.min_eq_left (by rw [Nat.add_mul] at h4; omega)]
              exact h3
            · cases hx
        · cases hb
      · cases hb
    · cases hb
  · rename_i c0
    split at hb
    · rename_i hn
      cases hb
      have hs : v = c0 := hs
      rw [hs, nilSlice_eq hn]
      exact ⟨[], World.ownsRow_nil _ _ _ _, (fun i x hx => by cases hx), (fun b hb => by cases hb), (fun m hm => by cases hm)⟩
    · cases hb
  · cases hb

theorem base_rel (h : StRel B ρ st a fs w) {s : Operand} {e' : Nat} {k : Kd} {obs : List Prop} {n : Option Nat} {xs : List k.T} (hb : st.base e' k (st.ev s) = some (obs, n, xs)) (hobs : ∀ p ∈ obs, p) :
    ∃ inner, w.ownsRow 0 e' k.sz (a.eval s) xs.length inner ∧ (∀ i x, xs[i]? = some x → Rep w (Forb B ρ st.hp) k x ((inner.drop (i * k.sz)).take k.sz)) ∧
            (∀ b, (a.eval s).ownBlock = some b → ∃ m ob, n = some m ∧ st.hp[m]? = some (some ob) ∧ blk (ρ m) = some b) ∧ (∀ m, n = some m → ∃ ob, st.hp[m]? = some (some ob) ∧ ∀ b, (a.eval s).ownBlock = some b → blk (ρ m) = some b) :=
  base_relV h (ev_rel h s) hb hobs

/-- A cut of a row, as a row of its own; the old one is given up. -/
def St.trunc (st : St) (s : SV) (kv : SV → St → Prop) : Prop :=
  match s with
  | .sub n k off len => match st.hp[n]? with
    | some (some (.row e _ _)) => match st.base e k (.sub n k off len) with
      | some (obs, some m, ys) => conj obs (kv (.own st.hp.length) { st with hp := st.hp.set m none ++ [some (.row e k ys)] })
      | _ => kv s st
    | _ => kv s st
  | _ => kv s st

theorem trunc_sound (h : StRel B ρ st a fs w) {s : SV} {v : Value} (hs : s.rel (cx B ρ st.hp w) v) (hk : st.trunc s kv) : ∃ s' st' ρ', kv s' st' ∧ StRel B ρ' st' a fs w ∧ s'.rel (cx B ρ' st'.hp w) v := by
  unfold St.trunc at hk
  split at hk
  · rename_i n k off len
    split at hk
    · rename_i e k' xs hob
      split at hk
      · rename_i obs m ys hb
        obtain ⟨hobs, hk⟩ := conj_all hk
        obtain ⟨inner, hown, hreps, hblk, hdead⟩ := base_relV h hs hb hobs
        obtain ⟨ob, hm, hb2⟩ := hdead m rfl
        have hform : ∃ A q c, v = .slice A q c := by
          rcases hown.2 with ⟨rfl, _⟩ | ⟨g, cap, cur, rfl, _⟩
          · exact ⟨_, _, _, rfl⟩
          · exact ⟨_, _, _, rfl⟩
        have hvb : ∀ b, blk v = some b → v.ownBlock = some b := by
          intro b hb
          obtain ⟨A, q, c, rfl⟩ := hform
          cases A with
          | none => cases hb
          | some ad => exact hb
        have T : Turn B ρ (upd ρ st.hp.length v) st.hp (st.hp.set m none ++ [some (.row e k ys)]) w w st.hp.length none :=
          Turn.renew hm ⟨rfl, rfl, rfl, Nat.le_refl _, fun _ _ _ => rfl⟩ (fun b hb => by cases hb) (fun b hb => .inr (hb2 b (hvb b hb)))
        refine ⟨_, _, upd ρ st.hp.length v, hk, h.turn T (fun ob2 hob2 => ?_), ⟨by simp, (upd_same _ _ _).symm, hform⟩⟩
        have hlen : (st.hp.set m none).length = st.hp.length := by simp
        rw [List.getElem?_append_right (by omega), hlen, Nat.sub_self] at hob2
        cases hob2
        rw [upd_same]
        exact ⟨inner, .inl hown, fun i x hx => (hreps i x hx).step T.le.size T.le.same T.le.F⟩
      · exact ⟨_, _, _, hk, h, hs⟩
    · exact ⟨_, _, _, hk, h, hs⟩
  · exact ⟨_, _, _, hk, h, hs⟩

/-- A row that has grown. -/
theorem row_grown (h : StRel B ρ st a fs w) {o : Oper} {sv : Value} {e' : Nat} {k : Kd} {n : Option Nat} {xs ys : List k.T} {inner : List Value} (hinl : inner.length = xs.length * k.sz)
    (hreps : ∀ i x, xs[i]? = some x → Rep w (Forb B ρ st.hp) k x ((inner.drop (i * k.sz)).take k.sz))
    (hblk : ∀ b, sv.ownBlock = some b → ∃ m ob, n = some m ∧ st.hp[m]? = some (some ob) ∧ blk (ρ m) = some b) (hdead : ∀ m, n = some m → ∃ ob, st.hp[m]? = some (some ob) ∧ ∀ b, sv.ownBlock = some b → blk (ρ m) = some b)
    {v' : Value} {w' : World} {news : List Value} (hexec : (execOp a.eval o).run E.P w = .ok (.value v') w') (hown' : w'.ownsRow 0 e' k.sz v' (xs.length + ys.length) (inner ++ news)) (hgrow : w.grownBy w' sv.ownBlock)
    (hat : v'.ownBlock = sv.ownBlock ∨ v'.ownBlock = some w.heap.size) (hnews : ∀ i x, ys[i]? = some x → Rep w (Forb B ρ st.hp) k x ((news.drop (i * k.sz)).take k.sz))
    (hkv : kv (.own st.hp.length) { st with hp := killOpt st.hp n ++ [some (.row e' k (xs ++ ys))] }) : Yield E B o a fs w kv := by
  have hform : ∃ A q c, v' = .slice A q c := by
    rcases hown'.2 with ⟨rfl, _⟩ | ⟨g, cap, cur, rfl, _⟩
    · exact ⟨_, _, _, rfl⟩
    · exact ⟨_, _, _, rfl⟩
  have hvb : ∀ b, blk v' = some b → v'.ownBlock = some b := by
    intro b hb
    obtain ⟨A, q, c, rfl⟩ := hform
    cases A with
    | none => cases hb
    | some ad => exact hb
  have T : Turn B ρ (upd ρ st.hp.length v') st.hp (killOpt st.hp n ++ [some (.row e' k (xs ++ ys))]) w w' st.hp.length sv.ownBlock := by
    cases n with
    | some m =>
      obtain ⟨ob, hob, hb2⟩ := hdead m rfl
      exact Turn.renew hob hgrow hb2 (fun b hb => by
        rcases hat with h1 | h1
        · exact .inr (hb2 b (by rw [← h1]; exact hvb b hb))
        · rw [hvb b hb] at h1; cases h1; exact .inl (Nat.le_refl _))
    | none =>
      have hnone : sv.ownBlock = none := by
        cases hq : sv.ownBlock with
        | none => rfl
        | some b => obtain ⟨m, _, hm, _⟩ := hblk b hq; cases hm
      rw [hnone] at hgrow hat ⊢
      exact Turn.new hgrow (fun b hb => by
        rcases hat with h1 | h1
        · rw [hvb b hb] at h1; cases h1
        · rw [hvb b hb] at h1; cases h1; exact Nat.le_refl _)
  refine ⟨_, w', _, _, _, v', hexec, .inl rfl, hkv, h.turn T (fun ob hob => ?_), ⟨?_, (upd_same _ _ _).symm, hform⟩⟩
  · have hlen : (killOpt st.hp n).length = st.hp.length := by cases n <;> simp [killOpt]
    rw [List.getElem?_append_right (by omega), hlen, Nat.sub_self] at hob
    cases hob
    rw [upd_same]
    refine ⟨inner ++ news, by rw [List.length_append]; exact .inl hown', fun i x hx => ?_⟩
    by_cases hil : i < xs.length
    · rw [List.getElem?_append_left hil] at hx
      have h1 := (hreps i x hx).step T.le.size T.le.same T.le.F
      have hle : i * k.sz + k.sz ≤ inner.length := by
        rw [hinl]
        have := Nat.mul_le_mul_right k.sz (show i + 1 ≤ xs.length from hil)
        rw [Nat.add_mul, Nat.one_mul] at this
        exact this
      rw [List.drop_append_of_le_length (by omega), List.take_append_of_le_length (by simp; omega)]
      exact h1
    · rw [List.getElem?_append_right (by omega)] at hx
      have h1 := (hnews _ x hx).step T.le.size T.le.same T.le.F
      have hle : i * k.sz = inner.length + (i - xs.length) * k.sz := by
        rw [hinl, ← Nat.add_mul]; congr 1; omega
      rw [hle, ← List.drop_drop, List.drop_left]
      exact h1
  · have hlen : (killOpt st.hp n).length = st.hp.length := by cases n <;> simp [killOpt]
    simp [hlen]

theorem append_sound (hE : E.Ok) (h : StRel B ρ st a fs w) {t : Nat} {s x : Operand} {o : Oper} {c : Call} (e : o.op = .call c) (hc : c.callee = .builtin .append) (ha : c.args = #[s, x]) (hta : c.argTypes = #[t, t])
    (hstr : ∀ l, st.ev x ≠ .dat .str l) (hk : st.append E t (st.ev s) (st.ev x) kv) : Yield E B o a fs w kv := by
  have hd := hE.d t
  unfold St.append at hk
  split at hk
  · rename_i e' e1
    rw [e1] at hd
    have hd : E.P.underlying t = some (.slice e') := hd
    split at hk
    · rename_i k e2
      obtain ⟨_, _, inf, z, hi, hsz, hby, hz, hzc⟩ := hE.k e2
      split at hk
      · rename_i obs n xs ys hb hx
        obtain ⟨hobs, hk⟩ := conj_all hk
        obtain ⟨hpos, hbytes, h63, hkv⟩ := hk
        obtain ⟨A, cc, hv, hels⟩ := src_rel h (ev_rel h x) hx hstr
        have hzs : z.cells.size = k.sz := by
          have : z.cells.toList.length = k.zero.length := by rw [hzc]
          have hl : ∀ k : Kd, k.zero.length = k.sz := by
            intro k
            induction k <;> simp_all [Kd.zero, Kd.sz]
          rw [hl] at this; simpa using this
        have hrow := base_rel h hb hobs
        obtain ⟨inner, hown, hreps, hblk, hdead⟩ := hrow
        have hinl := hown.1
        -- what the call leaves
        have fin : ∀ (v' : Value) (w' : World) (news : List Value), (Builtin.append_ #[t, t] o.type #[a.eval s, a.eval x]).run E.P w = .ok v' w' → w'.ownsRow 0 e' k.sz v' (xs.length + ys.length) (inner ++ news) → w.grownBy w' (a.eval s).ownBlock →
            (v'.ownBlock = (a.eval s).ownBlock ∨ v'.ownBlock = some w.heap.size) → (∀ i x, ys[i]? = some x → Rep w (Forb B ρ st.hp) k x ((news.drop (i * k.sz)).take k.sz)) → Yield E B o a fs w kv := by
          intro v' w' news hrun hown' hgrow hat hnews
          refine row_grown h hinl hreps hblk hdead ?_ hown' hgrow hat hnews hkv
          unfold execOp
          rw [e]
          simp only [resolve, hc, ha, hta, Sem.run_bind, Sem.run_pure, Result.andThen_ok, invoke, builtin, List.map_toArray, List.map_cons, List.map_nil, hrun]
        -- the two ways
        have hrepl : ∀ x cs, Rep w (Forb B ρ st.hp) k x cs → cs.length = k.sz := fun x cs h => h.length
        cases A with
        | none =>
          have hy : ys = [] := by
            cases hys : ys with
            | nil => rfl
            | cons y l => obtain ⟨ad, h1, _⟩ := hels (by rw [hys]; simp); cases h1
          subst hy
          refine fin (a.eval s) w [] (by rw [hv]; exact run_append_nothing hd hi hown cc) (by simpa using hown) ⟨rfl, rfl, rfl, Nat.le_refl _, fun _ _ _ => rfl⟩ (.inl rfl) (fun i x hx => by cases hx)
        | some ad =>
          have hnews : ∃ news : List Value, news.length = ys.length * k.sz ∧ (∀ j u, news[j]? = some u → w.cell? (ad.add j) = some u) ∧ ∀ i x, ys[i]? = some x → Rep w (Forb B ρ st.hp) k x ((news.drop (i * k.sz)).take k.sz) := by
            by_cases hne : ys = []
            · subst hne; exact ⟨[], by simp, (fun j u h => by cases h), (fun i x h => by cases h)⟩
            · obtain ⟨ad', h1, h2⟩ := hels hne
              cases h1
              exact els_cells hrepl h2
          obtain ⟨news, h1, h2, h3⟩ := hnews
          have hone : ∀ u ∈ news, u.oneCell' = true := by
            intro u hu
            obtain ⟨j, hj, rfl⟩ := List.mem_iff_getElem.1 hu
            have hjs : j / k.sz < ys.length := Nat.div_lt_of_lt_mul (by rw [Nat.mul_comm, ← h1]; exact hj)
            have h4 := h3 (j / k.sz) _ (List.getElem?_eq_getElem hjs)
            refine h4.one _ ?_
            have hm : j / k.sz * k.sz + j % k.sz = j := by rw [Nat.mul_comm]; exact Nat.div_add_mod j k.sz
            have hmod : j % k.sz < k.sz := Nat.mod_lt _ hpos
            refine List.mem_iff_getElem?.2 ⟨j % k.sz, ?_⟩
            rw [List.getElem?_take, if_pos hmod, List.getElem?_drop, hm, List.getElem?_eq_getElem hj]
          obtain ⟨v', w', hr, h5, h6, _, h7⟩ := run_append_own_at (P := E.P) w 0 t o.type e' inf z k.sz (E.bytes e') hd hi hz hsz hby hzs hpos (a.eval s) xs.length inner hown ad ys.length cc news h1 h2 hone (by simpa [maxLen] using h63) hbytes (Nat.zero_le _)
          exact fin v' w' news (by rw [hv]; exact hr) h5 h6 h7 h3
      · exact hk.elim
    · exact hk.elim
  · exact hk.elim
end

/-! ### Stores -/
def St.store (E : Ty) (st : St) (t : Nat) (ad x : SV) (kv : SV → St → Prop) : Prop :=
  match ad, E.sz t, x.cells with
  | .ptr n o, some z, some l => match st.hp[n]? with
    | some (some (.var ty cs)) => if l.length = z ∧ o + z ≤ cs.length then kv .junk { st with hp := st.hp.set n (some (.var ty (cs.take o ++ l ++ cs.drop (o + z)))) } else False
    | _ => False
  | .oel n k i off, some _, some l => match st.hp[n]?, E.k t with
    | some (some (.row e k0 xs)), some kt => if h : kt = k0 then
        if kt = k ∧ off = 0 then
          match unleaf kt l with
          | some (y, []) => kv .junk { st with hp := st.hp.set n (some (.row e k0 (xs.set i (castT h y)))) }
          | _ => False
        else False
      else False
    | _, _ => False
  | _, _, _ => False

section
variable {E : Ty} {B : Base} {ρ : Nat → Value} {st : St} {a : Act} {fs : List Act} {w : World} {kv : SV → St → Prop} {C : Cx}

theorem run_storeCells_q {P : Program} (g o : Nat) (t : TypeId) (fz : Nat × Nat) : ∀ (vs : List Value) (i : Nat) (cur : Array Value) (w : World), w.heap[g]? = some (.cells cur t fz) → (fz = (0, 0) ∨ cur.size ≤ fz.1) → o + i + vs.length ≤ cur.size → (∀ v ∈ vs, v.oneCell' = true) →
    (storeCells ⟨g, o, none⟩ vs i).run P w = .ok () (w.setRow g (cur.toList.take (o + i) ++ vs ++ cur.toList.drop (o + i + vs.length)).toArray)
  | [], i, cur, w, hg, _, _, _ => by
    simp only [storeCells, List.append_nil, List.length_nil, Nat.add_zero, List.take_append_drop, Array.toArray_toList]
    rw [setRow_self w g cur t fz hg]
    rfl
  | v :: rest, i, cur, w, hg, hfz, hl, h1 => by
    have hi : o + i < cur.size := by simp at hl; omega
    have hadd : (⟨g, o, none⟩ : Addr).add i = ⟨g, o + i, none⟩ := by unfold Addr.add; split <;> simp_all
    have hcell : w.cell? ⟨g, o + i, none⟩ = some cur[o + i] := by simp [World.cell?, hg, hi]
    have hfro : w.frozen? ⟨g, o + i, none⟩ = false := by
      obtain ⟨lo, hi'⟩ := fz
      simp only [World.frozen?, hg, Bool.and_eq_false_iff, decide_eq_false_iff_not]
      rcases hfz with hfz | hfz
      · cases hfz; right; omega
      · left; simp only at hfz; omega
    have hst : (store ((⟨g, o, none⟩ : Addr).add i) v).run P w = .ok () (w.setRow g (cur.setIfInBounds (o + i) v)) := by
      rw [hadd, run_store P w _ v _ (h1 v (by simp)), hcell]
      simp [hfro, setCell_eq_setRow w g (o + i) cur t fz v hg]
    have ih := run_storeCells_q (P := P) g o t fz rest (i + 1) (cur.setIfInBounds (o + i) v) (w.setRow g (cur.setIfInBounds (o + i) v)) (setRow_heap w g cur _ t _ hg) (by simpa using hfz) (by simp at hl ⊢; omega) (fun x hx => h1 x (by simp [hx]))
    simp only [storeCells, Sem.run_bind, hst, Result.andThen_ok, ih, setRow_setRow]
    congr 3
    have e := list_seg_step cur.toList (o + i) v rest (by simp at hl ⊢; omega)
    simpa [Array.toList_setIfInBounds, Nat.add_assoc] using e

theorem run_storeVar {P : Program} {t : Nat} {inf : TypeInfo} (hi : P.info? t = some inf) {g o : Nat} {v : Value} {ty : TypeId} {cur : Array Value} {fz : Nat × Nat} (hg : w.heap[g]? = some (.cells cur ty fz)) (hfz : fz = (0, 0) ∨ cur.size ≤ fz.1)
    (hl : v.cells.size = inf.size) (hr : o + v.cells.size ≤ cur.size) (h1 : ∀ u ∈ v.cells.toList, u.oneCell' = true) :
    (storeVar t ⟨g, o, none⟩ v).run P w = .ok () (w.setRow g (cur.toList.take o ++ v.cells.toList ++ cur.toList.drop (o + v.cells.size)).toArray) := by
  unfold storeVar
  have hl' : ¬ v.cells.size ≠ inf.size := by simpa using hl
  have := run_storeCells_q (P := P) g o ty fz v.cells.toList 0 cur w hg hfz (by simpa using hr) h1
  simp only [Nat.add_zero, Array.length_toList] at this
  simp only [Sem.run_bind, run_sizeOf hi, Result.andThen_ok, hl', if_false, this]

theorem RowOk.set {e sz g n n' cap : Nat} {xs : List Value} (h : RowOk w e sz (.slice (some ⟨g, 0, none⟩) n cap) n' xs) : n' = n ∧ ∃ (cur : Array Value) (e0 : Nat) (fz : Nat × Nat), w.heap[g]? = some (.cells cur e0 fz) ∧ (fz = (0, 0) ∨ cur.size ≤ fz.1) ∧ n' ≤ cap ∧ cap ≤ maxLen ∧ cur.size = cap * sz ∧ cur.toList.take (n' * sz) = xs ∧
    ∀ cur' : Array Value, cur'.size = cur.size → RowOk (w.setRow g cur') e sz (.slice (some ⟨g, 0, none⟩) n' cap) n' (cur'.toList.take (n' * sz)) := by
  rcases h with ⟨h1, ⟨h2, _⟩ | ⟨g', cap', cur, h2, h3, h4, h5, h6, h7, h8⟩⟩ | ⟨hB, h1, g', cap', cur, fz, h2, h4, hz, h5, h6, h7, h8⟩
  · cases h2
  · cases h2
    have hle : n * sz ≤ cap * sz := Nat.mul_le_mul_right _ h5
    refine ⟨rfl, cur, e, (0, 0), h4, .inl rfl, h5, h6, h7, h8, fun cur' hc => .inl ⟨?_, .inr ⟨g, cap, cur', rfl, h3, setRow_heap w g _ _ e (0, 0) h4, h5, h6, by rw [hc, h7], rfl⟩⟩⟩
    rw [List.length_take, Array.length_toList, hc, h7]; omega
  · cases h2
    have hle : n * sz ≤ cap * sz := Nat.mul_le_mul_right _ h5
    refine ⟨rfl, cur, _, fz, h4, .inr hz, h5, h6, h7, h8, fun cur' hc => .inr ⟨hB, ?_, g, cap, cur', fz, rfl, setRow_heap w g _ _ _ fz h4, by rw [hc]; exact hz, h5, h6, by rw [hc, h7], rfl⟩⟩
    rw [List.length_take, Array.length_toList, hc, h7]; omega

theorem splice_get (A V : List Value) (p z q : Nat) (hV : V.length = z) (hA : p + z ≤ A.length) : (A.take p ++ V ++ A.drop (p + z))[q]? = if p ≤ q ∧ q < p + z then V[q - p]? else A[q]? := by
  have h1 : (A.take p).length = p := by simp; omega
  have h2 : (A.take p ++ V).length = p + z := by simp [hV]; omega
  by_cases c1 : q < p
  · rw [if_neg (by omega), List.getElem?_append_left (by omega), List.getElem?_append_left (by omega), List.getElem?_take, if_pos c1]
  · by_cases c2 : q < p + z
    · rw [if_pos ⟨by omega, c2⟩, List.getElem?_append_left (by omega), List.getElem?_append_right (by omega), h1]
    · rw [if_neg (by omega), List.getElem?_append_right (by omega), h2, List.getElem?_drop, show p + z + (q - (p + z)) = q by omega]

/-- A piece of a list with a piece replaced. -/
theorem splice_seg (A V : List Value) (i j z m : Nat) (hV : V.length = z) (hA : m * z ≤ A.length) (hi : i < m) (hj : j < m) :
    (((A.take (i * z) ++ V ++ A.drop (i * z + z)).take (m * z)).drop (j * z)).take z = if j = i then V else ((A.take (m * z)).drop (j * z)).take z := by
  have hle : ∀ i, i < m → i * z + z ≤ m * z := fun i hi => by
    have := Nat.mul_le_mul_right z (show i + 1 ≤ m from hi)
    rw [Nat.add_mul, Nat.one_mul] at this
    exact this
  have h1 := hle i hi
  have h2 := hle j hj
  apply List.ext_getElem?
  intro q
  by_cases hq : q < z
  · rw [List.getElem?_take, if_pos hq, List.getElem?_drop, List.getElem?_take, if_pos (by omega), splice_get A V (i * z) z (j * z + q) hV (by omega)]
    by_cases e : j = i
    · subst e
      rw [if_pos (by omega), if_pos rfl]
      congr 1; omega
    · have hne : ¬ (i * z ≤ j * z + q ∧ j * z + q < i * z + z) := by
        rintro ⟨h3, h4⟩
        rcases Nat.lt_or_gt_of_ne e with h5 | h5
        · have := Nat.mul_le_mul_right z (show j + 1 ≤ i from h5)
          rw [Nat.add_mul, Nat.one_mul] at this
          omega
        · have := Nat.mul_le_mul_right z (show i + 1 ≤ j from h5)
          rw [Nat.add_mul, Nat.one_mul] at this
          omega
      rw [if_neg hne, if_neg e, List.getElem?_take, if_pos hq, List.getElem?_drop, List.getElem?_take, if_pos (by omega)]
  · rw [List.getElem?_take, if_neg hq]
    split
    · rw [List.getElem?_eq_none (by omega)]
    · rw [List.getElem?_take, if_neg hq]

theorem grownBy_setRow (w : World) (g : Nat) (cs : Array Value) : w.grownBy (w.setRow g cs) (some g) :=
  ⟨rfl, rfl, rfl, by simp, fun k _ hk => setRow_other w g k cs (fun e => hk (by rw [e]))⟩

theorem store_sound (hE : E.Ok) (h : StRel B ρ st a fs w) {t : Nat} {ad x : Operand} {o : Oper} (e : o.op = .store t ad x) {sa sx : SV} (ha : sa.rel (cx B ρ st.hp w) (a.eval ad)) (hx : sx.rel (cx B ρ st.hp w) (a.eval x))
    (hk : st.store E t sa sx kv) : Yield E B o a fs w kv := by
  unfold St.store at hk
  split at hk
  · rename_i n oo z l hz hl
    obtain ⟨inf, hi, hsz, _⟩ := hE.sz hz
    split at hk
    · rename_i ty cs hob
      split at hk
      · rename_i hc
        obtain ⟨hn, b, h1, h2⟩ := ha
        obtain ⟨b', vs, h3, h4, h5⟩ := h.h.obj n _ hob
        simp only at h1
        rw [h3] at h1
        simp only [Value.pointer.injEq, Option.some.injEq, Addr.mk.injEq, and_true] at h1
        subst h1
        have hr := cells_rel hl hx
        have hlen := rels_length hr
        have hlen2 := rels_length h5
        simp only [Array.length_toList] at hlen
        have T : Turn B ρ ρ st.hp (st.hp.set n (some (.var ty (cs.take oo ++ l ++ cs.drop (oo + z))))) w (w.setRow b' (vs.take oo ++ (a.eval x).cells.toList ++ vs.drop (oo + (a.eval x).cells.size)).toArray) n (some b') :=
          Turn.at hob (grownBy_setRow _ _ _) (fun b hb => by cases hb; rw [h3]; rfl)
        refine ⟨.skip, _, _, _, ρ, undef, ?_, .inr ⟨rfl, rfl⟩, hk, h.turn T (fun ob hob2 => ?_), trivial⟩
        · unfold execOp
          rw [e]
          simp only [Instr.storeAt, Instr.sureAddr, h2, Sem.run_bind, Sem.run_pure, Result.andThen_ok]
          rw [run_storeVar hi h4 (.inl rfl) (by omega) (by simp; omega) (cells_one hl hx)]
          rfl
        · have hnl := (List.getElem?_eq_some_iff.1 hob).1
          rw [List.getElem?_set_self (by simpa using hnl)] at hob2
          cases hob2
          refine ⟨b', _, h3, setRow_heap w b' _ _ ty (0, 0) h4, ?_⟩
          refine rels_append (rels_append (rels_take oo (SV.rels.le T.le h5)) (SV.rels.le T.le hr)) ?_
          have e9 : vs.drop (oo + (a.eval x).cells.size) = vs.drop (oo + z) := by rw [hlen, hc.1]
          have h10 := rels_drop (oo + z) (SV.rels.le T.le h5)
          rwa [← e9] at h10
      · exact hk.elim
    · exact hk.elim
  · rename_i n k i off z l hz hl
    obtain ⟨inf, hi, hsz, _⟩ := hE.sz hz
    split at hk
    · rename_i e0 k0 xs kt hob hkt
      split at hk
      · rename_i hh
        subst hh
        split at hk
        · rename_i hc
          obtain ⟨rfl, rfl⟩ := hc
          split at hk
          · rename_i y hy
            rw [castT_rfl] at hk
            obtain ⟨_, hszk, _⟩ := hE.k hkt
            have hzk : inf.size = kt.sz := by rw [hz] at hszk; cases hszk; exact hsz
            obtain ⟨hn, g, m, cap, h1, hlt, h2⟩ := ha
            simp only at h1
            obtain ⟨inner, ho, hreps⟩ := h.h.obj n _ hob
            simp only at ho hreps
            rw [h1] at ho
            have hol := ho.form.1
            obtain ⟨hm, cur, e1', fz, h4, hz', h5, h6, h7, h8, hset⟩ := ho.set
            subst hm
            have hr := cells_rel hl hx
            have hy2 := unleaf_all hy hr
            have hvl : (a.eval x).cells.size = kt.sz := by simpa using hy2.length
            have hle : i * kt.sz + kt.sz ≤ xs.length * kt.sz := by
              have := Nat.mul_le_mul_right kt.sz (show i + 1 ≤ xs.length by omega)
              rw [Nat.add_mul, Nat.one_mul] at this
              exact this
            have hle2 : xs.length * kt.sz ≤ cur.size := by rw [h7]; exact Nat.mul_le_mul_right _ h5
            have T : Turn B ρ ρ st.hp (st.hp.set n (some (.row e0 kt (xs.set i y)))) w (w.setRow g (cur.toList.take (i * kt.sz) ++ (a.eval x).cells.toList ++ cur.toList.drop (i * kt.sz + (a.eval x).cells.size)).toArray) n (some g) :=
              Turn.at hob (grownBy_setRow _ _ _) (fun b hb => by cases hb; rw [h1]; rfl)
            refine ⟨.skip, _, _, _, ρ, undef, ?_, .inr ⟨rfl, rfl⟩, hk, h.turn T (fun ob hob2 => ?_), trivial⟩
            · unfold execOp
              rw [e]
              simp only [Instr.storeAt, Instr.sureAddr, h2, Sem.run_bind, Sem.run_pure, Result.andThen_ok, addr_add, Nat.zero_add, Nat.add_zero]
              rw [run_storeVar hi h4 hz' (by omega) (by omega) (cells_one hl hx)]
              rfl
            · have hnl := (List.getElem?_eq_some_iff.1 hob).1
              rw [List.getElem?_set_self (by simpa using hnl)] at hob2
              cases hob2
              have hAl : xs.length * kt.sz ≤ cur.toList.length := by simpa using hle2
              have hset2 := hset (cur.toList.take (i * kt.sz) ++ (a.eval x).cells.toList ++ cur.toList.drop (i * kt.sz + (a.eval x).cells.size)).toArray (by simp; omega)
              refine ⟨(cur.toList.take (i * kt.sz) ++ (a.eval x).cells.toList ++ cur.toList.drop (i * kt.sz + (a.eval x).cells.size)).take (xs.length * kt.sz), by rw [h1, List.length_set]; exact hset2, fun j y' hy' => ?_⟩
              · have hj : j < xs.length := by
                  have := (List.getElem?_eq_some_iff.1 hy').1
                  simpa using this
                have seg : (((cur.toList.take (i * kt.sz) ++ (a.eval x).cells.toList ++ cur.toList.drop (i * kt.sz + (a.eval x).cells.size)).take (xs.length * kt.sz)).drop (j * kt.sz)).take kt.sz = if j = i then (a.eval x).cells.toList else ((cur.toList.take (xs.length * kt.sz)).drop (j * kt.sz)).take kt.sz := by
                  rw [hvl]
                  exact splice_seg cur.toList (a.eval x).cells.toList i j kt.sz xs.length (by simpa using hvl) hAl (by omega) hj
                rw [seg]
                by_cases hji : j = i
                · subst hji
                  rw [List.getElem?_set_self hj] at hy'
                  cases hy'
                  rw [if_pos rfl]
                  exact hy2.step T.le.size T.le.same T.le.F
                · rw [List.getElem?_set_ne (Ne.symm hji)] at hy'
                  rw [if_neg hji, h8]
                  exact (hreps j y' hy').step T.le.size T.le.same T.le.F
          · exact hk.elim
        · exact hk.elim
      · exact hk.elim
    · exact hk.elim
  · exact hk.elim
end
end Go.Vc
