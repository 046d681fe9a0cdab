/- Texts of a verified walk, led together: Base, State, Heap, Pure, Read, Op1, EqD. -/
import Derived.Below
import Derived.Maps.AppendAt
import Derived.Laws.BytesArg
import Derived.KernelRfl
import Derived.Tactics
import Derived.Laws.Slices
import Derived.Laws.Strings2
import Derived.Laws.Strings3
import Derived.Laws.Concat
import Derived.Laws.Bits
import Derived.Laws.StructEq
import Derived.ChangeKeysEq
set_option linter.unusedVariables false
set_option linter.unusedSimpArgs false
section
namespace Go.Pl
end Go.Pl
namespace Go.Vc
open Go.RowKit
inductive Kd where
  | int (k : IntKind) | bool | str | sl (k : Kd) | pair (a b : Kd) | unit
  | err
  | fn
  | arr (n : Nat) (k : Kd)
  | mp (k : Kd)
  deriving DecidableEq
@[reducible] def Kd.T : Kd → Type
  | .int _ => Int
  | .bool => Bool
  | .str => List Int
  | .sl k => List k.T
  | .pair a b => a.T × b.T
  | .unit => Unit
  | .err => Bool
  | .fn => Nat
  | .arr _ k => List k.T
  | .mp k => List (Int × k.T)
def Kd.dft : (k : Kd) → k.T
  | .int _ => (0 : Int)
  | .bool => false
  | .str => []
  | .sl _ => []
  | .pair a b => (a.dft, b.dft)
  | .unit => ()
  | .err => false
  | .fn => (0 : Nat)
  | .arr n k => List.replicate n k.dft
  | .mp _ => []
def Kd.sz : Kd → Nat
  | .pair a b => a.sz + b.sz
  | .unit => 0
  | .arr n k => n * k.sz
  | _ => 1
def Kd.isAgg : Kd → Bool
  | .pair _ _ | .unit | .arr _ _ => true
  | _ => false
def Kd.zero : Kd → List Value
  | .int k => [.int k 0]
  | .bool => [.bool false]
  | .str => [.string ⟨#[]⟩]
  | .sl _ => [.slice none 0 0]
  | .pair a b => a.zero ++ b.zero
  | .unit => []
  | .err => [.nilIface]
  | .fn => [.nilFunc]
  | .arr n k => (List.replicate n k.zero).flatten
  | .mp _ => [.map none]
def InR (k : IntKind) (x : Int) : Prop := k.min ≤ x ∧ x ≤ k.max
def Kd.wf : (k : Kd) → k.T → Prop
  | .int k, x => InR k x
  | .bool, _ => True
  | .str, l => l.length ≤ 9223372036854775807 ∧ ∀ b ∈ l, 0 ≤ b ∧ b ≤ 255
  | .sl k, xs => xs.length ≤ 9223372036854775807 ∧ ∀ x ∈ xs, k.wf x
  | .pair a b, x => a.wf x.1 ∧ b.wf x.2
  | .unit, _ => True
  | .err, _ => True
  | .fn, _ => True
  | .arr n k, xs => xs.length = n ∧ ∀ x ∈ xs, k.wf x
  | .mp k, xs => ∀ x ∈ xs, InR .i64 x.1 ∧ k.wf x.2
def bs (s : ByteArray) : List Int := s.data.toList.map fun b => (b.toNat : Int)
theorem bs_length (s : ByteArray) : (bs s).length = s.size := by
  simp [bs]
theorem bs_range (s : ByteArray) : ∀ b ∈ bs s, 0 ≤ b ∧ b ≤ 255 := by
  intro b hb
  simp only [bs, List.mem_map] at hb
  obtain ⟨u, _, rfl⟩ := hb
  have := u.toNat_lt
  omega
def Els {α : Type} (w : World) (rep : α → List Value → Prop) (sz : Nat) (ad : Addr) (xs : List α) : Prop :=
  ∀ i x, xs[i]? = some x → ∃ ecs, rep x ecs ∧ ∀ (j : Nat) (u : Value), ecs[j]? = some u → w.cell? (ad.add (i * sz + j)) = some u
def RepL {α : Type} (rep : α → List Value → Prop) : List α → List Value → Prop
  | [], cs => cs = []
  | x :: xs, cs => ∃ c1 c2, cs = c1 ++ c2 ∧ rep x c1 ∧ RepL rep xs c2
theorem RepL.imp {α : Type} {rep rep' : α → List Value → Prop} : ∀ {xs : List α} {cs : List Value}, RepL rep xs cs → (∀ x ∈ xs, ∀ c, rep x c → rep' x c) → RepL rep' xs cs
  | [], _, h, _ => h
  | x :: xs, _, h, hr => by
    obtain ⟨c1, c2, e, h1, h2⟩ := h
    exact ⟨c1, c2, e, hr x (by simp) _ h1, RepL.imp h2 fun y hy => hr y (by simp [hy])⟩
theorem RepL.length {α : Type} {rep : α → List Value → Prop} {sz : Nat} : ∀ {xs : List α} {cs : List Value}, RepL rep xs cs → (∀ x ∈ xs, ∀ c, rep x c → c.length = sz) → cs.length = xs.length * sz
  | [], _, h, _ => by have h : _ = _ := h; subst h; simp
  | x :: xs, _, h, hr => by
    obtain ⟨c1, c2, rfl, h1, h2⟩ := h
    rw [List.length_append, hr x (by simp) _ h1, RepL.length h2 fun y hy => hr y (by simp [hy]), List.length_cons, Nat.add_mul]
    omega
theorem RepL.all {α : Type} {rep : α → List Value → Prop} {p : Value → Prop} : ∀ {xs : List α} {cs : List Value}, RepL rep xs cs → (∀ x ∈ xs, ∀ c, rep x c → ∀ u ∈ c, p u) → ∀ u ∈ cs, p u
  | [], _, h, _, u, hu => by have h : _ = _ := h; subst h; cases hu
  | x :: xs, _, h, hr, u, hu => by
    obtain ⟨c1, c2, rfl, h1, h2⟩ := h
    rcases List.mem_append.1 hu with hu | hu
    . exact hr x (by simp) _ h1 u hu
    . exact RepL.all h2 (fun y hy => hr y (by simp [hy])) u hu
theorem RepL.each {α : Type} {rep : α → List Value → Prop} {p : α → Prop} : ∀ {xs : List α} {cs : List Value}, RepL rep xs cs → (∀ x ∈ xs, ∀ c, rep x c → p x) → ∀ x ∈ xs, p x
  | [], _, _, _, u, hu => by cases hu
  | x :: xs, _, h, hr, u, hu => by
    obtain ⟨c1, c2, rfl, h1, h2⟩ := h
    rcases List.mem_cons.1 hu with rfl | hu
    . exact hr _ (by simp) _ h1
    . exact RepL.each h2 (fun y hy => hr y (by simp [hy])) u hu
def EntL {α : Type} (rep : α → List Value → Prop) (agg : Bool) : List (Int × α) → List MapEntry → Prop
  | [], es => es = []
  | x :: xs, es => ∃ e r, es = e :: r ∧ e.key = .int .i64 x.1 ∧ InR .i64 x.1 ∧ (∃ cs, rep x.2 cs ∧ if agg then e.val = .agg cs.toArray else cs = [e.val]) ∧ EntL rep agg xs r
theorem EntL.imp {α : Type} {rep rep' : α → List Value → Prop} {agg : Bool} : ∀ {xs : List (Int × α)} {es : List MapEntry}, EntL rep agg xs es → (∀ x ∈ xs, ∀ c, rep x.2 c → rep' x.2 c) → EntL rep' agg xs es
  | [], _, h, _ => h
  | x :: xs, _, h, hr => by
    obtain ⟨e, r, e1, h1, h2, ⟨cs, h3, h4⟩, h5⟩ := h
    exact ⟨e, r, e1, h1, h2, ⟨cs, hr x (by simp) _ h3, h4⟩, EntL.imp h5 fun y hy => hr y (by simp [hy])⟩
theorem EntL.each {α : Type} {rep : α → List Value → Prop} {agg : Bool} {p : Int × α → Prop} : ∀ {xs : List (Int × α)} {es : List MapEntry}, EntL rep agg xs es → (∀ x ∈ xs, InR .i64 x.1 → ∀ c, rep x.2 c → p x) → ∀ x ∈ xs, p x
  | [], _, _, _, u, hu => by cases hu
  | x :: xs, _, h, hr, u, hu => by
    obtain ⟨e, r, e1, h1, h2, ⟨cs, h3, h4⟩, h5⟩ := h
    rcases List.mem_cons.1 hu with rfl | hu
    . exact hr _ (by simp) h2 _ h3
    . exact EntL.each h5 (fun y hy => hr y (by simp [hy])) u hu
def MapAt (w : World) (F : Nat → Prop) (r : Nat) (es : Array MapEntry) (clock : Nat) : Prop :=
  r < w.heap.size ∧ ¬ F r ∧ w.heap[r]? = some (.map es clock) ∧ (es.toList.map (·.born)).Nodup ∧ ∀ e ∈ es.toList, e.born < clock
def Rep (w : World) (F : Nat → Prop) : (k : Kd) → k.T → List Value → Prop
  | .int k, x, cs => cs = [.int k x] ∧ InR k x
  | .bool, b, cs => cs = [.bool b]
  | .str, l, cs => ∃ s : ByteArray, cs = [.string s] ∧ bs s = l ∧ s.size ≤ 9223372036854775807
  | .sl k, xs, cs => ∃ (A : Option Addr) (c : Nat), cs = [.slice A xs.length c] ∧ xs.length ≤ c ∧ c ≤ 9223372036854775807 ∧
      (xs ≠ [] → ∃ ad, A = some ad ∧ ad.block < w.heap.size ∧ ¬ F ad.block ∧ Els w (Rep w F k) k.sz ad xs)
  | .pair a b, x, cs => ∃ c1 c2, cs = c1 ++ c2 ∧ Rep w F a x.1 c1 ∧ Rep w F b x.2 c2
  | .unit, _, cs => cs = []
  | .err, b, cs => (b = false ∧ cs = [.nilIface]) ∨ (b = true ∧ ∃ t u, cs = [.iface t u])
  | .fn, f, cs => (f = (0 : Nat) ∧ cs = [.nilFunc]) ∨ (∃ n : Nat, f = n + 1 ∧ cs = [.func (.func n) #[] #[]])
  | .arr n k, xs, cs => xs.length = n ∧ RepL (Rep w F k) xs cs
  | .mp k, xs, cs => (xs = [] ∧ cs = [.map none]) ∨ ∃ r es clock, cs = [.map (some r)] ∧ MapAt w F r es clock ∧ EntL (Rep w F k) k.isAgg xs es.toList
theorem Rep.length {w : World} {F : Nat → Prop} : ∀ {k : Kd} {x : k.T} {cs : List Value}, Rep w F k x cs → cs.length = k.sz
  | .int _, _, _, h => by obtain ⟨rfl, _⟩ := h; rfl
  | .bool, _, _, h => by obtain rfl := h; rfl
  | .str, _, _, h => by obtain ⟨_, rfl, _⟩ := h; rfl
  | .sl _, _, _, h => by obtain ⟨_, _, rfl, _⟩ := h; rfl
  | .pair a b, _, _, h => by
    obtain ⟨c1, c2, rfl, h1, h2⟩ := h
    simp [Kd.sz, h1.length, h2.length]
  | .unit, _, _, h => by obtain rfl := h; rfl
  | .err, _, _, h => by rcases h with ⟨_, rfl⟩ | ⟨_, _, _, rfl⟩ <;> rfl
  | .fn, _, _, h => by rcases h with ⟨_, rfl⟩ | ⟨_, _, rfl⟩ <;> rfl
  | .arr n k, xs, cs, h => by
    rw [h.2.length (sz := k.sz) fun x _ c hc => Rep.length hc, h.1]; rfl
  | .mp _, _, _, h => by rcases h with ⟨_, rfl⟩ | ⟨_, _, _, rfl, _⟩ <;> rfl
theorem Rep.one {w : World} {F : Nat → Prop} : ∀ {k : Kd} {x : k.T} {cs : List Value}, Rep w F k x cs → ∀ u ∈ cs, u.oneCell' = true
  | .int _, _, _, h => by obtain ⟨rfl, _⟩ := h; simp [Value.oneCell']
  | .bool, _, _, h => by obtain rfl := h; simp [Value.oneCell']
  | .str, _, _, h => by obtain ⟨_, rfl, _⟩ := h; simp [Value.oneCell']
  | .sl _, _, _, h => by obtain ⟨_, _, rfl, _⟩ := h; simp [Value.oneCell']
  | .pair a b, _, _, h => by
    obtain ⟨c1, c2, rfl, h1, h2⟩ := h
    intro u hu
    rcases List.mem_append.1 hu with hu | hu
    . exact h1.one u hu
    . exact h2.one u hu
  | .unit, _, _, h => by obtain rfl := h; simp
  | .err, _, _, h => by rcases h with ⟨_, rfl⟩ | ⟨_, _, _, rfl⟩ <;> simp [Value.oneCell']
  | .fn, _, _, h => by rcases h with ⟨_, rfl⟩ | ⟨_, _, rfl⟩ <;> simp [Value.oneCell']
  | .arr _ _, _, _, h => h.2.all fun x _ c hc => Rep.one hc
  | .mp _, _, _, h => by rcases h with ⟨_, rfl⟩ | ⟨_, _, _, rfl, _⟩ <;> simp [Value.oneCell']
theorem Rep.wf {w : World} {F : Nat → Prop} : ∀ {k : Kd} {x : k.T} {cs : List Value}, Rep w F k x cs → k.wf x
  | .int _, _, _, h => h.2
  | .bool, _, _, _ => trivial
  | .str, l, _, h => by
    obtain ⟨s, _, rfl, hs⟩ := h
    exact ⟨by rw [bs_length]; exact hs, bs_range s⟩
  | .sl k, xs, _, h => by
    obtain ⟨A, c, _, h1, h2, h3⟩ := h
    refine ⟨Nat.le_trans h1 h2, fun x hx => ?_⟩
    obtain ⟨ad, _, _, _, he⟩ := h3 (fun e => by rw [e] at hx; cases hx)
    obtain ⟨i, hi⟩ := List.mem_iff_getElem?.1 hx
    obtain ⟨ecs, hr, _⟩ := he i x hi
    exact hr.wf
  | .pair a b, _, _, h => by
    obtain ⟨c1, c2, _, h1, h2⟩ := h
    exact ⟨h1.wf, h2.wf⟩
  | .unit, _, _, _ => trivial
  | .err, _, _, _ => trivial
  | .fn, _, _, _ => trivial
  | .arr _ _, _, _, h => ⟨h.1, h.2.each fun x _ c hc => Rep.wf hc⟩
  | .mp _, _, _, h => by
    rcases h with ⟨rfl, _⟩ | ⟨_, _, _, _, _, h⟩
    . intro x hx; cases hx
    . exact h.each fun x _ hi c hc => ⟨hi, Rep.wf hc⟩
theorem Els.imp {α : Type} {w w' : World} {rep rep' : α → List Value → Prop} {sz : Nat} {ad : Addr} {xs : List α} (h : Els w rep sz ad xs)
    (hr : ∀ x ∈ xs, ∀ cs, rep x cs → rep' x cs) (hc : ∀ j u, w.cell? (ad.add j) = some u → w'.cell? (ad.add j) = some u) : Els w' rep' sz ad xs := fun i x hx => by
  obtain ⟨ecs, h1, h2⟩ := h i x hx
  exact ⟨ecs, hr x (List.mem_iff_getElem?.2 ⟨i, hx⟩) _ h1, fun j u hu => hc _ _ (h2 j u hu)⟩
theorem add_block (ad : Addr) (j : Nat) : (ad.add j).block = ad.block := by unfold Addr.add; split <;> rfl
theorem cell_lt {w : World} {a : Addr} {v : Value} (h : w.cell? a = some v) : a.block < w.heap.size := World.block_lt_of_cell? w a h
theorem Rep.step {w w' : World} {F F' : Nat → Prop} (hs : w.heap.size ≤ w'.heap.size) (hw : ∀ b, b < w.heap.size → ¬ F b → w'.heap[b]? = w.heap[b]?) (hF : ∀ b, b < w.heap.size → F' b → F b) :
    ∀ {k : Kd} {x : k.T} {cs : List Value}, Rep w F k x cs → Rep w' F' k x cs
  | .int _, _, _, h => h
  | .bool, _, _, h => h
  | .str, _, _, h => h
  | .sl k, xs, cs, h => by
    obtain ⟨A, c, e, h1, h2, h3⟩ := h
    refine ⟨A, c, e, h1, h2, fun hne => ?_⟩
    obtain ⟨ad, ea, hlt, hf, he⟩ := h3 hne
    refine ⟨ad, ea, Nat.lt_of_lt_of_le hlt hs, fun hc => hf (hF _ hlt hc), he.imp (fun x _ cs hr => Rep.step hs hw hF hr) fun j u hu => ?_⟩
    rw [World.cell?_of_block (w := w) (by rw [add_block]; exact hw _ hlt hf)]; exact hu
  | .pair a b, _, _, h => by
    obtain ⟨c1, c2, e, h1, h2⟩ := h
    exact ⟨c1, c2, e, Rep.step hs hw hF h1, Rep.step hs hw hF h2⟩
  | .unit, _, _, h => h
  | .err, _, _, h => h
  | .fn, _, _, h => h
  | .arr _ _, _, _, h => ⟨h.1, h.2.imp fun x _ c hc => Rep.step hs hw hF hc⟩
  | .mp _, _, _, h => by
    rcases h with h | ⟨r, es, clock, e, ⟨h1, h2, h3, h4⟩, h5⟩
    . exact .inl h
    . exact .inr ⟨r, es, clock, e, ⟨Nat.lt_of_lt_of_le h1 hs, fun hc => h2 (hF _ h1 hc), by rw [hw _ h1 h2]; exact h3, h4⟩, h5.imp fun x _ c hc => Rep.step hs hw hF hc⟩
theorem Rep.mono {w : World} {F F' : Nat → Prop} (hF : ∀ b, b < w.heap.size → F' b → F b) {k : Kd} {x : k.T} {cs : List Value} (h : Rep w F k x cs) : Rep w F' k x cs :=
  Rep.step (Nat.le_refl _) (fun _ _ _ => rfl) hF h
end Go.Vc
end
section
namespace Go.Vc
open Go.RowKit
inductive SV where
  | yld
  | aar (k : Kd) (xs : List k.T)
  | dat (k : Kd) (x : k.T)
  | cst (v : Value)
  | own (n : Nat)
  | sub (n : Nat) (k : Kd) (off len : Nat)
  | ptr (n : Nat) (o : Nat)
  | rptr (n : Nat)
  | adr (k : Kd) (x : k.T)
  | oel (n : Nat) (k : Kd) (i off : Nat)
  | fn (f : FuncId) (cap : List SV)
  | tup (l : List SV)
  | agg (l : List SV)
  | ifc (t : TypeId) (s : SV)
  | gd (p : Bool) (s : SV)
  | junk
inductive Ob where
  | row (e : TypeId) (k : Kd) (xs : List k.T)
  | var (t : TypeId) (cs : List SV)
  | siter (l : List Int) (pos : Nat)
  | dfr
  | miter (k : Kd) (xs : List (Int × k.T)) (seen : List Nat)
  | mapo (k : Kd) (xs : List (Int × k.T))
abbrev Slots := List (Nat × SV)
inductive DE where
  | mark (n : Nat)
  | fn (f : FuncId) (cap : List SV)
inductive Jump where
  | ret | exit (id : Nat)
inductive LS where
  | no | ready | busy | done (j : Jump)
inductive GV where
  | arr (k : Kd) (xs : List k.T)
  | one (k : Kd) (x : k.T)
  | num (k : IntKind)
  | raw (vs : List Value)
  | ifc
abbrev Gl := List (Nat × GV)
structure St where
  n : Nat
  sl : Slots
  kn : List (Nat × Bool) := []
  stk : List (Slots × List DE) := []
  hp : List (Option Ob) := []
  df : List DE := []
  ls : LS := .no
  gl : Gl := []
structure Cx where
  w : World
  F : Nat → Prop
  ρ : Nat → Value
  N : Nat
  lp : Nat := 0
def blk : Value → Option Nat
  | .slice (some a) _ _ => some a.block
  | .pointer (some a) => some a.block
  | .map (some r) => some r
  | _ => none
def hnd (v : Value) : Prop := (∃ A m c, v = .slice A m c) ∨ ∃ r, v = .map (some r)
def VRep (w : World) (F : Nat → Prop) (k : Kd) (x : k.T) (v : Value) : Prop :=
  ∃ cs, Rep w F k x cs ∧ (if k.isAgg then v = .agg cs.toArray else cs = [v])
def BIG : Nat := 1099511627776
def ownsRowG (w : World) (e sz : Nat) (v : Value) (n : Nat) (xs : List Value) : Prop :=
  xs.length = n * sz ∧ ∃ (g cap : Nat) (cur : Array Value) (fz : Nat × Nat), v = .slice (some ⟨g, 0, none⟩) n cap ∧ w.heap[g]? = some (.cells cur e fz) ∧ cur.size ≤ fz.1 ∧ n ≤ cap ∧ cap ≤ maxLen ∧ cur.size = cap * sz ∧ cur.toList.take (n * sz) = xs
def RowOk (w : World) (e sz : Nat) (v : Value) (n : Nat) (xs : List Value) : Prop := w.ownsRow 0 e sz v n xs ∨ (BIG ≤ e ∧ ownsRowG w (e - BIG) sz v n xs)
theorem RowOk.low {w : World} {e sz : Nat} {v : Value} {n : Nat} {xs : List Value} (h : RowOk w e sz v n xs) (he : e < BIG) : w.ownsRow 0 e sz v n xs := h.resolve_right (fun hc => by omega)
theorem RowOk.form {w : World} {e sz : Nat} {v : Value} {n : Nat} {xs : List Value} (h : RowOk w e sz v n xs) : xs.length = n * sz ∧ ((v = .slice none 0 0 ∧ n = 0) ∨
    ∃ (g cap : Nat) (cur : Array Value) (e0 : Nat) (fz : Nat × Nat), v = .slice (some ⟨g, 0, none⟩) n cap ∧ w.heap[g]? = some (.cells cur e0 fz) ∧ (fz = (0, 0) ∨ cur.size ≤ fz.1) ∧ n ≤ cap ∧ cap ≤ maxLen ∧ cur.size = cap * sz ∧ cur.toList.take (n * sz) = xs) := by
  rcases h with ⟨h1, h2⟩ | ⟨_, h1, g, cap, cur, fz, h2, h3, h4, h5⟩
  . refine ⟨h1, h2.imp id ?_⟩
    rintro ⟨g, cap, cur, h3, _, h4, h5⟩
    exact ⟨g, cap, cur, e, (0, 0), h3, h4, .inl rfl, h5⟩
  . exact ⟨h1, .inr ⟨g, cap, cur, _, fz, h2, h3, .inr h4, h5⟩⟩
theorem RowOk.mv {w w' : World} {e sz : Nat} {v : Value} {n : Nat} {xs : List Value} (h : RowOk w e sz v n xs) (hb : ∀ g n c, v = .slice (some ⟨g, 0, none⟩) n c → w'.heap[g]? = w.heap[g]?) : RowOk w' e sz v n xs := by
  rcases h with ⟨h1, h2⟩ | ⟨hB, h1, g, cap, cur, fz, h2, h3, h4⟩
  . refine .inl ⟨h1, h2.imp id ?_⟩
    rintro ⟨g, cap, cur, h3, h6, h4, h5⟩
    exact ⟨g, cap, cur, h3, h6, by rw [hb g _ _ h3]; exact h4, h5⟩
  . exact .inr ⟨hB, h1, g, cap, cur, fz, h2, by rw [hb g _ _ h2]; exact h3, h4⟩
mutual
def SV.rel (C : Cx) : SV → Value → Prop
  | .yld, v => v = .func (.yield C.lp) #[] #[]
  | .aar k xs, v => ∃ ad, v = .pointer (some ad) ∧ ad.block < C.w.heap.size ∧ ¬ C.F ad.block ∧ Els C.w (Rep C.w C.F k) k.sz ad xs
  | .dat k x, v => VRep C.w C.F k x v
  | .cst c, v => v = c
  | .own n, v => n < C.N ∧ v = C.ρ n ∧ hnd v
  | .sub n k off len, v => n < C.N ∧ ∃ A m cap A' c, C.ρ n = .slice A m cap ∧ v = .slice A' len c ∧ off + len ≤ m ∧ m - off ≤ c ∧ c = cap - off ∧ (A' = A.map (·.add (off * k.sz)) ∨ (c = 0 ∧ 0 < off))
  | .ptr n o, v => n < C.N ∧ ∃ b, C.ρ n = .pointer (some ⟨b, 0, none⟩) ∧ v = .pointer (some ⟨b, o, none⟩)
  | .rptr n, v => n < C.N ∧ ∃ g m cap, C.ρ n = .slice (some ⟨g, 0, none⟩) m cap ∧ v = .pointer (some ⟨g, 0, none⟩) ∧ cap = m
  | .adr k x, v => ∃ ad cs, v = .pointer (some ad) ∧ Rep C.w C.F k x cs ∧ ad.block < C.w.heap.size ∧ ¬ C.F ad.block ∧ ∀ (j : Nat) (u : Value), cs[j]? = some u → C.w.cell? (ad.add j) = some u
  | .oel n k i off, v => n < C.N ∧ ∃ g m cap, C.ρ n = .slice (some ⟨g, 0, none⟩) m cap ∧ i < m ∧ v = .pointer (some ((⟨g, 0, none⟩ : Addr).add (i * k.sz + off)))
  | .fn f cap, v => ∃ vs, v = .func (.func f) #[] vs.toArray ∧ SV.rels C cap vs
  | .tup l, v => ∃ vs, v = .tuple vs.toArray ∧ SV.rels C l vs
  | .agg l, v => ∃ vs, v = .agg vs.toArray ∧ SV.rels C l vs
  | .ifc t s, v => ∃ u, v = .iface t u ∧ SV.rel C s u
  | .gd p s, v => (p = true → SV.rel C s v) ∧ (p = false → v = undef)
  | .junk, _ => True
def SV.rels (C : Cx) : List SV → List Value → Prop
  | [], vs => vs = []
  | s :: l, vs => ∃ v r, vs = v :: r ∧ SV.rel C s v ∧ SV.rels C l r
end
def Ob.rel (C : Cx) : Ob → Value → Prop
  | .row e k xs, h => ∃ inner, RowOk C.w e k.sz h xs.length inner ∧ ∀ i x, xs[i]? = some x → Rep C.w C.F k x ((inner.drop (i * k.sz)).take k.sz)
  | .var t cs, h => ∃ b vs, h = .pointer (some ⟨b, 0, none⟩) ∧ C.w.heap[b]? = some (.cells vs.toArray t (0, 0)) ∧ SV.rels C cs vs
  | .siter l pos, h => ∃ b s, h = .pointer (some ⟨b, 0, none⟩) ∧ C.w.heap[b]? = some (.stringIter s pos) ∧ bs s = l ∧ s.size ≤ 9223372036854775807
  | .dfr, h => ∃ b, h = .pointer (some ⟨b, 0, none⟩) ∧ C.w.heap[b]? = some (.deferred (some []))
  | .miter k xs seen, h => ∃ b r es clock, h = .pointer (some ⟨b, 0, none⟩) ∧ MapAt C.w C.F r es clock ∧ EntL (Rep C.w C.F k) k.isAgg xs es.toList ∧ (∀ i ∈ seen, i < es.size) ∧
      C.w.heap[b]? = some (.mapIter (some r) clock (seen.map fun i => (es.toList.map (·.born)).getD i 0).toArray clock)
  | .mapo k xs, h => ∃ r es clock, h = .map (some r) ∧ C.w.heap[r]? = some (.map es clock) ∧ EntL (Rep C.w C.F k) k.isAgg xs es.toList ∧ (es.toList.map (·.born)).Nodup ∧ ∀ e ∈ es.toList, e.born < clock
def DRel (C : Cx) : List DE → List Deferred → Prop
  | [], ds => ds = []
  | .mark n :: l, ds => ∃ b r, ds = { target := .collected b, args := #[] } :: r ∧ n < C.N ∧ C.ρ n = .pointer (some ⟨b, 0, none⟩) ∧ DRel C l r
  | .fn f cap :: l, ds => ∃ vs r, ds = { target := .fn (.func f) vs.toArray, args := #[] } :: r ∧ SV.rels C cap vs ∧ DRel C l r
structure Cx.le (C C' : Cx) : Prop where
  size : C.w.heap.size ≤ C'.w.heap.size
  same : ∀ b, b < C.w.heap.size → ¬ C.F b → C'.w.heap[b]? = C.w.heap[b]?
  F : ∀ b, b < C.w.heap.size → C'.F b → C.F b
  N : C.N ≤ C'.N
  ρ : ∀ n, n < C.N → C'.ρ n = C.ρ n
  lp : C'.lp = C.lp
theorem Cx.le.refl (C : Cx) : C.le C := ⟨Nat.le_refl _, fun _ _ _ => rfl, fun _ _ h => h, Nat.le_refl _, fun _ _ => rfl, rfl⟩
theorem MapAt.le {C C' : Cx} (h : C.le C') {r clock : Nat} {es : Array MapEntry} (hm : MapAt C.w C.F r es clock) : MapAt C'.w C'.F r es clock := by
  obtain ⟨h1, h2, h3, h4⟩ := hm
  exact ⟨Nat.lt_of_lt_of_le h1 h.size, fun hc => h2 (h.F _ h1 hc), by rw [h.same _ h1 h2]; exact h3, h4⟩
theorem VRep.le {C C' : Cx} (h : C.le C') {k : Kd} {x : k.T} {v : Value} (hv : VRep C.w C.F k x v) : VRep C'.w C'.F k x v := by
  obtain ⟨cs, hr, hc⟩ := hv
  exact ⟨cs, hr.step h.size h.same h.F, hc⟩
mutual
theorem SV.rel.le {C C' : Cx} (h : C.le C') : ∀ {s : SV} {v : Value}, s.rel C v → s.rel C' v
  | .yld, v, hr => by
    have hr : v = _ := hr
    show v = _
    rw [h.lp]; exact hr
  | .aar k xs, v, hr => by
    obtain ⟨ad, e, h1, h2, h3⟩ := hr
    refine ⟨ad, e, Nat.lt_of_lt_of_le h1 h.size, fun hc => h2 (h.F _ h1 hc), h3.imp (fun x _ cs hr => Rep.step h.size h.same h.F hr) fun j u hu => ?_⟩
    rw [World.cell?_of_block (w := C.w) (by rw [add_block]; exact h.same _ h1 h2)]; exact hu
  | .dat k x, v, hr => VRep.le h hr
  | .cst c, v, hr => hr
  | .own n, v, hr => ⟨Nat.lt_of_lt_of_le hr.1 h.N, by rw [h.ρ n hr.1]; exact hr.2⟩
  | .sub n k off len, v, hr => ⟨Nat.lt_of_lt_of_le hr.1 h.N, by rw [h.ρ n hr.1]; exact hr.2⟩
  | .ptr n o, v, hr => ⟨Nat.lt_of_lt_of_le hr.1 h.N, by rw [h.ρ n hr.1]; exact hr.2⟩
  | .rptr n, v, hr => ⟨Nat.lt_of_lt_of_le hr.1 h.N, by rw [h.ρ n hr.1]; exact hr.2⟩
  | .adr k x, v, hr => by
    obtain ⟨ad, cs, e, h1, h2, h3, h4⟩ := hr
    exact ⟨ad, cs, e, h1.step h.size h.same h.F, Nat.lt_of_lt_of_le h2 h.size, fun hc => h3 (h.F _ h2 hc), fun j u hu => by
      rw [World.cell?_of_block (w := C.w) (by rw [add_block]; exact h.same _ h2 h3)]; exact h4 j u hu⟩
  | .oel n k i off, v, hr => ⟨Nat.lt_of_lt_of_le hr.1 h.N, by rw [h.ρ n hr.1]; exact hr.2⟩
  | .fn f cap, v, hr => by obtain ⟨vs, e, hs⟩ := hr; exact ⟨vs, e, SV.rels.le h hs⟩
  | .tup l, v, hr => by obtain ⟨vs, e, hs⟩ := hr; exact ⟨vs, e, SV.rels.le h hs⟩
  | .agg l, v, hr => by obtain ⟨vs, e, hs⟩ := hr; exact ⟨vs, e, SV.rels.le h hs⟩
  | .ifc t s, v, hr => by obtain ⟨u, e, hs⟩ := hr; exact ⟨u, e, SV.rel.le h hs⟩
  | .gd p s, v, hr => ⟨fun hp => SV.rel.le h (hr.1 hp), hr.2⟩
  | .junk, _, _ => trivial
theorem SV.rels.le {C C' : Cx} (h : C.le C') : ∀ {l : List SV} {vs : List Value}, SV.rels C l vs → SV.rels C' l vs
  | [], _, hr => hr
  | s :: l, vs, hr => by
    obtain ⟨v, r, e, h1, h2⟩ := hr
    exact ⟨v, r, e, SV.rel.le h h1, SV.rels.le h h2⟩
end
theorem Ob.rel.le {C C' : Cx} (h : C.le C') {o : Ob} {v : Value} (hr : o.rel C v) (hb : ∀ b, blk v = some b → C'.w.heap[b]? = C.w.heap[b]?) : o.rel C' v := by
  cases o with
  | row e k xs =>
    obtain ⟨inner, h1, h2⟩ := hr
    exact ⟨inner, h1.mv fun g n c e => hb g (by rw [e]; rfl), fun i x hx => (h2 i x hx).step h.size h.same h.F⟩
  | var t cs =>
    obtain ⟨b, vs, e, h1, h2⟩ := hr
    exact ⟨b, vs, e, by rw [hb b (by rw [e]; rfl)]; exact h1, SV.rels.le h h2⟩
  | siter l pos =>
    obtain ⟨b, s, e, h1, h2⟩ := hr
    exact ⟨b, s, e, by rw [hb b (by rw [e]; rfl)]; exact h1, h2⟩
  | dfr =>
    obtain ⟨b, e, h1⟩ := hr
    exact ⟨b, e, by rw [hb b (by rw [e]; rfl)]; exact h1⟩
  | miter k xs seen =>
    obtain ⟨b, r, es, clock, e, h1, h2, h3, h4⟩ := hr
    exact ⟨b, r, es, clock, e, h1.le h, h2.imp fun x _ c hc => hc.step h.size h.same h.F, h3, by rw [hb b (by rw [e]; rfl)]; exact h4⟩
  | mapo k xs =>
    obtain ⟨r, es, clock, e, h1, h2, h3⟩ := hr
    exact ⟨r, es, clock, e, by rw [hb r (by rw [e]; rfl)]; exact h1, h2.imp fun x _ c hc => hc.step h.size h.same h.F, h3⟩
theorem DRel.le {C C' : Cx} (h : C.le C') : ∀ {l : List DE} {ds : List Deferred}, DRel C l ds → DRel C' l ds
  | [], _, hr => hr
  | .mark n :: l, _, hr => by
    obtain ⟨b, r, e, h1, h2, h3⟩ := hr
    exact ⟨b, r, e, Nat.lt_of_lt_of_le h1 h.N, by rw [h.ρ n h1]; exact h2, DRel.le h h3⟩
  | .fn f cap :: l, _, hr => by
    obtain ⟨vs, r, e, h1, h2⟩ := hr
    exact ⟨vs, r, e, SV.rels.le h h1, DRel.le h h2⟩
theorem Ob.rel.lt {C : Cx} {o : Ob} {v : Value} (hr : o.rel C v) : ∀ b, blk v = some b → b < C.w.heap.size := by
  intro b hb
  cases o with
  | row e k xs =>
    obtain ⟨inner, hh, _⟩ := hr
    rcases hh.form.2 with ⟨rfl, _⟩ | ⟨g, cap, cur, e0, fz, rfl, e3, _⟩
    . cases hb
    . cases hb; exact (Array.getElem?_eq_some_iff.1 e3).1
  | var t cs =>
    obtain ⟨b', vs, rfl, h1, _⟩ := hr
    cases hb; exact (Array.getElem?_eq_some_iff.1 h1).1
  | siter l pos =>
    obtain ⟨b', s, rfl, h1, _⟩ := hr
    cases hb; exact (Array.getElem?_eq_some_iff.1 h1).1
  | dfr =>
    obtain ⟨b', rfl, h1⟩ := hr
    cases hb; exact (Array.getElem?_eq_some_iff.1 h1).1
  | miter k xs seen =>
    obtain ⟨b', r, es, clock, rfl, _, _, _, h1⟩ := hr
    cases hb; exact (Array.getElem?_eq_some_iff.1 h1).1
  | mapo k xs =>
    obtain ⟨r, es, clock, rfl, h1, _⟩ := hr
    cases hb; exact (Array.getElem?_eq_some_iff.1 h1).1
structure Kept (S : Nat → Prop) (w w' : World) : Prop where
  os : w'.os = w.os
  tape : w'.tape = w.tape
  output : w'.output = w.output
  size : w.heap.size ≤ w'.heap.size
  block : ∀ b, b < w.heap.size → ¬ S b → w'.heap[b]? = w.heap[b]?
theorem Kept.refl (S : Nat → Prop) (w : World) : Kept S w w := ⟨rfl, rfl, rfl, Nat.le_refl _, fun _ _ _ => rfl⟩
theorem Kept.trans {S S' : Nat → Prop} {a b c : World} (h : Kept S a b) (k : Kept S' b c) (hs : ∀ x, x < a.heap.size → S' x → S x) : Kept S a c :=
  ⟨k.os.trans h.os, k.tape.trans h.tape, k.output.trans h.output, Nat.le_trans h.size k.size, fun i hi hn => (k.block i (Nat.lt_of_lt_of_le hi h.size) (fun hc => hn (hs i hi hc))).trans (h.block i hi hn)⟩
theorem Kept.below {w w' : World} (h : Kept (fun _ => False) w w') : Below w.heap.size w w' := ⟨h.os, h.tape, h.output, h.size, fun b hb => h.block b hb id⟩
def GV.ok (w : World) (F : Nat → Prop) (g : Nat) : GV → Prop
  | .arr k xs => Els w (Rep w F k) k.sz ⟨g, 0, none⟩ xs
  | .one k x => ∃ cs, Rep w F k x cs ∧ ∀ (j : Nat) (u : Value), cs[j]? = some u → w.cell? ((⟨g, 0, none⟩ : Addr).add j) = some u
  | .num k => ∃ m : Int, w.cell? ⟨g, 0, none⟩ = some (.int k m)
  | .raw vs => ∃ t fr, w.heap[g]? = some (.cells vs.toArray t fr)
  | .ifc => ∃ tp p t fr, w.heap[g]? = some (.cells #[.iface tp p] t fr)
def GlOk (gl : Gl) (w : World) (F : Nat → Prop) : Prop := ∀ g v, gl.lookup g = some v → g < w.heap.size ∧ ¬ F g ∧ v.ok w F g
theorem GV.ok_step {w w' : World} {F F' : Nat → Prop} {g : Nat} {v : GV} (hs : w.heap.size ≤ w'.heap.size) (hw : ∀ b, b < w.heap.size → ¬ F b → w'.heap[b]? = w.heap[b]?) (hF : ∀ b, b < w.heap.size → F' b → F b)
    (hg : g < w.heap.size) (hn : ¬ F g) (h : v.ok w F g) : v.ok w' F' g := by
  have cell : ∀ (j : Nat) (u : Value), w.cell? ((⟨g, 0, none⟩ : Addr).add j) = some u → w'.cell? ((⟨g, 0, none⟩ : Addr).add j) = some u := fun j u hu => by
    rw [World.cell?_of_block (w := w) (by rw [add_block]; exact hw _ hg hn)]; exact hu
  cases v with
  | arr k xs => exact Els.imp h (fun x _ cs hr => Rep.step hs hw hF hr) cell
  | one k x =>
    obtain ⟨cs, h1, h2⟩ := h
    exact ⟨cs, Rep.step hs hw hF h1, fun j u hu => cell j u (h2 j u hu)⟩
  | num k =>
    obtain ⟨m, hm⟩ := h
    refine ⟨m, ?_⟩
    have := cell 0 _ (by simpa [Addr.add] using hm)
    simpa [Addr.add] using this
  | raw vs =>
    obtain ⟨t, fr, h1⟩ := h
    exact ⟨t, fr, by rw [hw _ hg hn]; exact h1⟩
  | ifc =>
    obtain ⟨tp, p, t, fr, h1⟩ := h
    exact ⟨tp, p, t, fr, by rw [hw _ hg hn]; exact h1⟩
theorem GlOk.step {gl : Gl} {w w' : World} {F F' : Nat → Prop} (hs : w.heap.size ≤ w'.heap.size) (hw : ∀ b, b < w.heap.size → ¬ F b → w'.heap[b]? = w.heap[b]?) (hF : ∀ b, b < w.heap.size → F' b → F b) (h : GlOk gl w F) : GlOk gl w' F' :=
  fun g v hv => by
    obtain ⟨h1, h2, h3⟩ := h g v hv
    exact ⟨Nat.lt_of_lt_of_le h1 hs, fun hc => h2 (hF g h1 hc), GV.ok_step hs hw hF h1 h2 h3⟩
structure Base where
  alt : LS → World
  S : Nat → Prop
  Fb : Nat → Prop
  lp : Nat
  gl : Gl
  gok : ∀ ls, GlOk gl (alt ls) (fun b => Fb b ∨ S b)
def live (hp : List (Option Ob)) (n : Nat) : Prop := ∃ o, hp[n]? = some (some o)
def Forb (B : Base) (ρ : Nat → Value) (hp : List (Option Ob)) (b : Nat) : Prop := B.Fb b ∨ ∃ n, live hp n ∧ blk (ρ n) = some b
@[reducible] def cx (B : Base) (ρ : Nat → Value) (hp : List (Option Ob)) (w : World) : Cx := ⟨w, Forb B ρ hp, ρ, hp.length, B.lp⟩
structure HRel (B : Base) (w0 : World) (ρ : Nat → Value) (hp : List (Option Ob)) (w : World) : Prop where
  kept : Kept B.S w0 w
  obj : ∀ (n : Nat) (o : Ob), hp[n]? = some (some o) → o.rel (cx B ρ hp w) (ρ n)
  sep : ∀ n m b, live hp n → live hp m → blk (ρ n) = some b → blk (ρ m) = some b → n = m
  own : ∀ n b, live hp n → blk (ρ n) = some b → (w0.heap.size ≤ b ∨ B.S b) ∧ ¬ B.Fb b
  fb : ∀ b, B.Fb b → b < w0.heap.size ∧ ¬ B.S b
def SlotsRel (C : Cx) (n : Nat) (sl : Slots) (tmps : Array Value) : Prop :=
  tmps.size = n ∧ ∀ i s, sl.lookup i = some s → i < n ∧ s.rel C (tmps.getD i undef)
def StkRel (C : Cx) : List (Slots × List DE) → List Act → Prop
  | [], fs => fs = []
  | sl :: l, fs => ∃ t r, fs = t :: r ∧ SlotsRel C t.tmps.size sl.1 t.tmps ∧ DRel C sl.2 t.defers ∧ StkRel C l r
theorem SlotsRel.le {C C' : Cx} (h : C.le C') {n : Nat} {sl : Slots} {t : Array Value} (hr : SlotsRel C n sl t) : SlotsRel C' n sl t :=
  ⟨hr.1, fun i s hs => ⟨(hr.2 i s hs).1, (hr.2 i s hs).2.le h⟩⟩
theorem StkRel.le {C C' : Cx} (h : C.le C') : ∀ {l : List (Slots × List DE)} {fs : List Act}, StkRel C l fs → StkRel C' l fs
  | [], _, hr => hr
  | _ :: _, _, hr => by
    obtain ⟨t, r, e, h1, h2, h3⟩ := hr
    exact ⟨t, r, e, h1.le h, h2.le h, StkRel.le h h3⟩
structure StRel (B : Base) (ρ : Nat → Value) (st : St) (a : Act) (fs : List Act) (w : World) : Prop where
  h : HRel B (B.alt st.ls) ρ st.hp w
  s : SlotsRel (cx B ρ st.hp w) st.n st.sl a.tmps
  kn : ∀ t b, (t, b) ∈ st.kn → t < st.n ∧ a.tmps.getD t undef = .bool b
  k : StkRel (cx B ρ st.hp w) st.stk fs
  d : DRel (cx B ρ st.hp w) st.df a.defers
  g : st.gl = B.gl
theorem StRel.gls {B : Base} {ρ : Nat → Value} {st : St} {a : Act} {fs : List Act} {w : World} (h : StRel B ρ st a fs w) : GlOk st.gl w (Forb B ρ st.hp) := by
  rw [h.g]
  refine (B.gok st.ls).step h.h.kept.size (fun b hb hn => h.h.kept.block b hb (fun hc => hn (.inr hc))) (fun b hb hF => ?_)
  rcases hF with hF | ⟨n, hl, he⟩
  . exact .inl hF
  . exact .inr ((h.h.own n b hl he).1.resolve_left (by omega))
def St.set (st : St) (d : Option Nat) (s : SV) : St :=
  match d with
  | some d => { st with sl := (d, s) :: st.sl, kn := st.kn.filter (fun p => !Nat.beq p.1 d) }
  | none => st
theorem lookup_cons {d i : Nat} {s : SV} {sl : Slots} : List.lookup i ((d, s) :: sl) = if i = d then some s else sl.lookup i := by
  by_cases h : i = d
  . simp [h, List.lookup]
  . have : (i == d) = false := by simp [h]
    simp [List.lookup, this, h]
theorem put_same (a : Act) (d : Nat) (v : Value) (h : d < a.tmps.size) : (a.put (some d) v).tmps.getD d undef = v := by
  simp [Act.put, Array.getD_eq_getD_getElem?, h]
theorem put_other (a : Act) (d j : Nat) (v : Value) (h : j ≠ d) : (a.put (some d) v).tmps.getD j undef = a.tmps.getD j undef := by
  simp [Act.put, Array.getD_eq_getD_getElem?, Ne.symm h]
theorem StRel.put {B : Base} {ρ : Nat → Value} {st : St} {a : Act} {fs : List Act} {w : World} (h : StRel B ρ st a fs w) {d : Option Nat} {s : SV} {v : Value}
    (hd : ∀ i, d = some i → i < st.n) (hv : s.rel (cx B ρ st.hp w) v) : StRel B ρ (st.set d s) (a.put d v) fs w := by
  cases d with
  | none => exact h
  | some i =>
    have hi := hd i rfl
    obtain ⟨h1, h2, hk, h3, h4, h5⟩ := h
    have hs : i < a.tmps.size := by rw [h2.1]; exact hi
    refine ⟨h1, ⟨by simp [Act.put, h2.1, St.set], fun j s' hj => ?_⟩, fun t b hb => ?_, h3, h4, h5⟩
    . simp only [St.set] at hj
      rw [lookup_cons] at hj
      by_cases e : j = i
      . rw [if_pos e] at hj
        cases hj
        subst e
        exact ⟨hi, by rw [put_same a j v hs]; exact hv⟩
      . rw [if_neg e] at hj
        obtain ⟨hj1, hj2⟩ := h2.2 j s' hj
        exact ⟨hj1, by rw [put_other a i j v e]; exact hj2⟩
    . simp only [St.set, List.mem_filter, Bool.not_eq_true'] at hb
      have hne : t ≠ i := fun e => by rw [e, Nat.beq_refl] at hb; exact absurd hb.2 (by simp)
      obtain ⟨hk1, hk2⟩ := hk t b hb.1
      exact ⟨hk1, by rw [put_other a i t v hne]; exact hk2⟩
def St.know (st : St) (t : Nat) (b : Bool) : St := { st with kn := (t, b) :: st.kn, sl := (t, .cst (.bool b)) :: st.sl }
theorem StRel.know {B : Base} {ρ : Nat → Value} {st : St} {a : Act} {fs : List Act} {w : World} (h : StRel B ρ st a fs w) {t : Nat} {b : Bool}
    (ht : t < st.n) (hv : a.tmps.getD t undef = .bool b) : StRel B ρ (st.know t b) a fs w :=
  ⟨h.h, ⟨h.s.1, fun i s hs => by
    simp only [St.know] at hs
    rw [lookup_cons] at hs
    split at hs
    . rename_i e; cases hs; subst e; exact ⟨ht, hv⟩
    . exact h.s.2 i s hs⟩, fun t' b' hm => by
    rcases List.mem_cons.1 hm with e | hm
    . cases e; exact ⟨ht, hv⟩
    . exact h.kn t' b' hm, h.k, h.d, h.g⟩
end Go.Vc
end
section
namespace Go.Vc
open Go.RowKit
theorem HRel.live_block {B : Base} {w0 : World} {ρ : Nat → Value} {hp : List (Option Ob)} {w : World} (h : HRel B w0 ρ hp w) {n b : Nat} (hl : live hp n) (hb : blk (ρ n) = some b) : b < w.heap.size := by
  obtain ⟨o, ho⟩ := hl
  exact (h.obj n o ho).lt b hb
theorem live_lt {hp : List (Option Ob)} {n : Nat} (h : live hp n) : n < hp.length := by
  obtain ⟨o, ho⟩ := h
  exact (List.getElem?_eq_some_iff.1 ho).1
theorem HRel.forb_lt {B : Base} {w0 : World} {ρ : Nat → Value} {hp : List (Option Ob)} {w : World} (h : HRel B w0 ρ hp w) {b : Nat} (hb : Forb B ρ hp b) : b < w.heap.size := by
  rcases hb with hb | ⟨n, hl, hb⟩
  . exact Nat.lt_of_lt_of_le (h.fb b hb).1 h.kept.size
  . exact h.live_block hl hb
structure Turn (B : Base) (ρ ρ' : Nat → Value) (hp hp' : List (Option Ob)) (w w' : World) (p : Nat) (M : Option Nat) : Prop where
  N : hp.length ≤ hp'.length
  rho : ∀ n, n < hp.length → ρ' n = ρ n
  other : ∀ (m : Nat) (o : Ob), m ≠ p → hp'[m]? = some (some o) → hp[m]? = some (some o)
  mod : ∀ b, M = some b → ∃ n, live hp n ∧ blk (ρ n) = some b ∧ (n = p ∨ ¬ live hp' n)
  gw : w.grownBy w' M
  bl : ∀ b, live hp' p → blk (ρ' p) = some b → w.heap.size ≤ b ∨ ∃ n, live hp n ∧ blk (ρ n) = some b ∧ (n = p ∨ ¬ live hp' n)
theorem Turn.le {B : Base} {ρ ρ' : Nat → Value} {hp hp' : List (Option Ob)} {w w' : World} {p : Nat} {M : Option Nat} (t : Turn B ρ ρ' hp hp' w w' p M) :
    (cx B ρ hp w).le (cx B ρ' hp' w') where
  size := t.gw.size
  same b hb hF := t.gw.block b hb (fun e => by
    obtain ⟨n, hl, he, _⟩ := t.mod b e.symm
    exact hF (.inr ⟨n, hl, he⟩))
  F b hb hF := by
    rcases hF with hF | ⟨n, hl, he⟩
    . exact .inl hF
    . by_cases e : n = p
      . subst e
        rcases t.bl b hl he with h | ⟨m, hm, hmb, _⟩
        . exact absurd hb (by simp only [] at *; omega)
        . exact .inr ⟨m, hm, hmb⟩
      . obtain ⟨o, ho⟩ := hl
        have ho' := t.other n o e ho
        have hlt := live_lt ⟨o, ho'⟩
        exact .inr ⟨n, ⟨o, ho'⟩, by rw [← t.rho n hlt]; exact he⟩
  N := t.N
  ρ := t.rho
  lp := rfl
theorem Turn.hrel {B : Base} {w0 : World} {ρ ρ' : Nat → Value} {hp hp' : List (Option Ob)} {w w' : World} {p : Nat} {M : Option Nat} (t : Turn B ρ ρ' hp hp' w w' p M)
    (h : HRel B w0 ρ hp w) (hp0 : ∀ o, hp'[p]? = some (some o) → o.rel (cx B ρ' hp' w') (ρ' p)) : HRel B w0 ρ' hp' w' where
  kept := h.kept.trans (S' := fun b => M = some b) ⟨t.gw.os, t.gw.tape, t.gw.output, t.gw.size, fun b hb hn => t.gw.block b hb (fun e => hn e.symm)⟩ (fun b hb e => by
    obtain ⟨n, hl, he, _⟩ := t.mod b e
    exact (h.own n b hl he).1.resolve_left (by omega))
  obj n o ho := by
    by_cases e : n = p
    . subst e; exact hp0 o ho
    . have ho' := t.other n o e ho
      have hlt := live_lt ⟨o, ho'⟩
      rw [t.rho n hlt]
      refine (h.obj n o ho').le t.le (fun b hb => t.gw.block b (h.live_block ⟨o, ho'⟩ hb) (fun eM => ?_))
      obtain ⟨m, hm, hmb, hcase⟩ := t.mod b eM.symm
      have := h.sep m n b hm ⟨o, ho'⟩ hmb hb
      subst this
      rcases hcase with hc | hc
      . exact e hc
      . exact hc ⟨o, ho⟩
  sep n m b hn hm hnb hmb := by
    have key : ∀ n m, live hp' n → live hp' m → blk (ρ' n) = some b → blk (ρ' m) = some b → n ≠ p → m = p → n = m := by
      intro n m hn hm hnb hmb hne e
      subst e
      obtain ⟨o, ho⟩ := hn
      have ho' := t.other n o hne ho
      have hlt := live_lt ⟨o, ho'⟩
      rw [t.rho n hlt] at hnb
      have hlb := h.live_block ⟨o, ho'⟩ hnb
      rcases t.bl b hm hmb with h1 | ⟨q, hq, hqb, hcase⟩
      . omega
      . have := h.sep q n b hq ⟨o, ho'⟩ hqb hnb
        subst this
        rcases hcase with hc | hc
        . exact hc
        . exact absurd ⟨o, ho⟩ hc
    by_cases e1 : n = p
    . by_cases e2 : m = p
      . rw [e1, e2]
      . exact (key m n hm hn hmb hnb e2 e1).symm
    . by_cases e2 : m = p
      . exact key n m hn hm hnb hmb e1 e2
      . obtain ⟨o, ho⟩ := hn
        obtain ⟨o2, ho2⟩ := hm
        have ho' := t.other n o e1 ho
        have ho2' := t.other m o2 e2 ho2
        have hlt := live_lt ⟨o, ho'⟩
        have hlt2 := live_lt ⟨o2, ho2'⟩
        rw [t.rho n hlt] at hnb
        rw [t.rho m hlt2] at hmb
        exact h.sep n m b ⟨o, ho'⟩ ⟨o2, ho2'⟩ hnb hmb
  own n b hn hnb := by
    by_cases e : n = p
    . subst e
      rcases t.bl b hn hnb with h1 | ⟨q, hq, hqb, _⟩
      . refine ⟨.inl (Nat.le_trans h.kept.size h1), fun hc => ?_⟩
        have := (h.fb b hc).1
        have := h.kept.size
        omega
      . exact h.own q b hq hqb
    . obtain ⟨o, ho⟩ := hn
      have ho' := t.other n o e ho
      have hlt := live_lt ⟨o, ho'⟩
      rw [t.rho n hlt] at hnb
      exact h.own n b ⟨o, ho'⟩ hnb
  fb := h.fb
theorem StRel.turn {B : Base} {ρ ρ' : Nat → Value} {st : St} {a : Act} {fs : List Act} {hp' : List (Option Ob)} {w w' : World} {p : Nat} {M : Option Nat}
    (h : StRel B ρ st a fs w) (t : Turn B ρ ρ' st.hp hp' w w' p M) (hp0 : ∀ o, hp'[p]? = some (some o) → o.rel (cx B ρ' hp' w') (ρ' p)) : StRel B ρ' { st with hp := hp' } a fs w' :=
  ⟨t.hrel h.h hp0, h.s.le t.le, h.kn, h.k.le t.le, h.d.le t.le, h.g⟩
theorem StRel.same_heap {B : Base} {ρ : Nat → Value} {st : St} {a : Act} {fs : List Act} {w w' : World} (h : StRel B ρ st a fs w)
    (hos : w'.os = w.os) (ht : w'.tape = w.tape) (ho : w'.output = w.output) (hh : w'.heap = w.heap) : StRel B ρ st a fs w' := by
  have le : (cx B ρ st.hp w).le (cx B ρ st.hp w') := ⟨by simp [hh], fun b _ _ => by simp [hh], fun _ _ h => h, Nat.le_refl _, fun _ _ => rfl, rfl⟩
  refine ⟨⟨⟨hos.trans h.h.kept.os, ht.trans h.h.kept.tape, ho.trans h.h.kept.output, by rw [hh]; exact h.h.kept.size, fun b hb hn => by rw [hh]; exact h.h.kept.block b hb hn⟩,
    fun n o ho => (h.h.obj n o ho).le le (fun b _ => by simp [hh]), h.h.sep, h.h.own, h.h.fb⟩, h.s.le le, h.kn, h.k.le le, h.d.le le, h.g⟩
def upd (ρ : Nat → Value) (n : Nat) (v : Value) : Nat → Value := fun m => if m = n then v else ρ m
theorem upd_same (ρ : Nat → Value) (n : Nat) (v : Value) : upd ρ n v n = v := by simp [upd]
theorem upd_lt (ρ : Nat → Value) (n : Nat) (v : Value) (m : Nat) (h : m < n) : upd ρ n v m = ρ m := by simp [upd]; omega
theorem Turn.new {B : Base} {ρ : Nat → Value} {hp : List (Option Ob)} {w w' : World} {o : Ob} {v : Value} (hw : w.grownBy w' none) (hb : ∀ b, blk v = some b → w.heap.size ≤ b) :
    Turn B ρ (upd ρ hp.length v) hp (hp ++ [some o]) w w' hp.length none where
  N := by simp
  rho n hn := upd_lt ρ _ v n hn
  other m o' hm ho := by
    have hlt := (List.getElem?_eq_some_iff.1 ho).1
    simp at hlt
    rwa [List.getElem?_append_left (by omega)] at ho
  mod b hb := by cases hb
  gw := hw
  bl b _ hb' := by rw [upd_same] at hb'; exact .inl (hb b hb')
theorem getElem?_snoc {α : Type} (l : List α) (x : α) : (l ++ [x])[l.length]? = some x := by simp
theorem Turn.at {B : Base} {ρ : Nat → Value} {hp : List (Option Ob)} {w w' : World} {o o' : Ob} {n : Nat} {M : Option Nat} (hn : hp[n]? = some (some o)) (hw : w.grownBy w' M)
    (hM : ∀ b, M = some b → blk (ρ n) = some b) : Turn B ρ ρ hp (hp.set n (some o')) w w' n M where
  N := by simp
  rho _ _ := rfl
  other m o2 hm ho := by rwa [List.getElem?_set_ne (Ne.symm hm)] at ho
  mod b hb := ⟨n, ⟨o, hn⟩, hM b hb, .inl rfl⟩
  gw := hw
  bl b _ hb := .inr ⟨n, ⟨o, hn⟩, hb, .inl rfl⟩
theorem Turn.renew {B : Base} {ρ : Nat → Value} {hp : List (Option Ob)} {w w' : World} {o o' : Ob} {n : Nat} {v : Value} {M : Option Nat} (hn : hp[n]? = some (some o)) (hw : w.grownBy w' M)
    (hM : ∀ b, M = some b → blk (ρ n) = some b) (hb : ∀ b, blk v = some b → w.heap.size ≤ b ∨ blk (ρ n) = some b) :
    Turn B ρ (upd ρ hp.length v) hp (hp.set n none ++ [some o']) w w' hp.length M := by
  have hlt := (List.getElem?_eq_some_iff.1 hn).1
  have hdead : ¬ live (hp.set n none ++ [some o']) n := by
    rintro ⟨o2, ho2⟩
    rw [List.getElem?_append_left (by simpa using hlt), List.getElem?_set_self (by simpa using hlt)] at ho2
    cases ho2
  exact {
    N := by simp
    rho := fun m hm => upd_lt ρ _ v m hm
    other := fun m o2 hm ho => by
      have hl := (List.getElem?_eq_some_iff.1 ho).1
      simp at hl
      rw [List.getElem?_append_left (by simp; omega)] at ho
      by_cases e : m = n
      . subst e
        rw [List.getElem?_set_self (by simpa using hlt)] at ho
        cases ho
      . rwa [List.getElem?_set_ne (Ne.symm e)] at ho
    mod := fun b hb => ⟨n, ⟨o, hn⟩, hM b hb, .inr hdead⟩
    gw := hw
    bl := fun b _ hb' => by
      rw [upd_same] at hb'
      rcases hb b hb' with h1 | h1
      . exact .inl h1
      . exact .inr ⟨n, ⟨o, hn⟩, h1, .inr hdead⟩ }
end Go.Vc
end
section
namespace Go.Vc
open Go.RowKit
inductive TD where
  | int (k : IntKind) | bool | str | sl (e : Nat) | arr (n : Nat) (e : Nat) | st (fs : List (Nat × Nat)) | ptr (e : Nat) | fn | ifc | map (k e : Nat) | oth
def TD.ok (P : Program) (t : Nat) : TD → Prop
  | .int k => P.underlying t = some (.int k)
  | .bool => P.underlying t = some .bool
  | .str => P.underlying t = some .string
  | .sl e => P.underlying t = some (.slice e)
  | .arr n e => P.underlying t = some (.array n e)
  | .st fs => P.underlying t = some (.struct (P.fieldsOf t)) ∧ (P.fieldsOf t).toList.map (fun f => (f.type, f.offset)) = fs
  | .ptr e => P.underlying t = some (.pointer e)
  | .fn => ∃ p r v, P.underlying t = some (.func p r v)
  | .ifc => ∃ m, P.underlying t = some (.interface m)
  | .map k e => P.underlying t = some (.map k e)
  | .oth => True
structure TI where
  d : TD
  k : Option Kd
  sz : Nat
  bytes : Nat
  z : List Value
def TD.isAgg : TD → Bool
  | .arr _ _ | .st _ => true
  | _ => false
def TI.ok (P : Program) (t : Nat) (i : TI) : Prop :=
  i.d.ok P t ∧ (P.info? t).map (fun f => (f.size, f.bytes)) = some (i.sz, i.bytes) ∧ (P.info? t).map (fun f => f.zero.map (·.cells.toList)) = some (some i.z) ∧
    ∀ k, i.k = some k → k.isAgg = i.d.isAgg ∧ k.sz = i.sz ∧ i.z = k.zero
structure Ty where
  P : Program
  tys : List (Nat × TI)
def Ty.Ok (E : Ty) : Prop := ∀ t i, E.tys.lookup t = some i → i.ok E.P t
def Ty.d (E : Ty) (t : Nat) : TD := match E.tys.lookup t with | some i => i.d | none => .oth
def Ty.k (E : Ty) (t : Nat) : Option Kd := match E.tys.lookup t with | some i => i.k | none => none
def Ty.sz (E : Ty) (t : Nat) : Option Nat := match E.tys.lookup t with | some i => some i.sz | none => none
def Ty.z (E : Ty) (t : Nat) : Option (List Value) := match E.tys.lookup t with | some i => some i.z | none => none
def Ty.bytes (E : Ty) (t : Nat) : Nat := match E.tys.lookup t with | some i => i.bytes | none => 0
theorem Ty.Ok.d {E : Ty} (h : E.Ok) (t : Nat) : (E.d t).ok E.P t := by
  unfold Ty.d
  split
  . rename_i i hi; exact (h t i hi).1
  . trivial
theorem Ty.Ok.sz {E : Ty} (h : E.Ok) {t n : Nat} (hk : E.sz t = some n) : ∃ inf, E.P.info? t = some inf ∧ inf.size = n ∧ inf.bytes = E.bytes t := by
  unfold Ty.sz at hk
  unfold Ty.bytes
  cases hi : E.tys.lookup t with
  | some i =>
    rw [hi] at hk
    cases hk
    obtain ⟨inf, h1, h2⟩ := Option.map_eq_some_iff.1 (h t i hi).2.1
    simp only [Prod.mk.injEq] at h2
    exact ⟨inf, h1, h2.1, h2.2⟩
  | none => rw [hi] at hk; cases hk
theorem Ty.Ok.z {E : Ty} (h : E.Ok) {t : Nat} {l : List Value} (hk : E.z t = some l) : ∃ inf z, E.P.info? t = some inf ∧ inf.zero = some z ∧ z.cells.toList = l ∧ E.sz t = some inf.size := by
  unfold Ty.z at hk
  unfold Ty.sz
  cases hi : E.tys.lookup t with
  | some i =>
    rw [hi] at hk
    cases hk
    obtain ⟨_, h0, h1, _⟩ := h t i hi
    obtain ⟨inf, h2, h3⟩ := Option.map_eq_some_iff.1 h1
    obtain ⟨z, h4, h5⟩ := Option.map_eq_some_iff.1 h3
    obtain ⟨inf', h6, h7⟩ := Option.map_eq_some_iff.1 h0
    rw [h2] at h6
    cases h6
    simp only [Prod.mk.injEq] at h7
    exact ⟨inf, z, h2, h4, h5, by simp [h7.1]⟩
  | none => rw [hi] at hk; cases hk
theorem Ty.Ok.k {E : Ty} (h : E.Ok) {t : Nat} {k : Kd} (hk : E.k t = some k) :
    k.isAgg = (E.d t).isAgg ∧ E.sz t = some k.sz ∧ ∃ inf z, E.P.info? t = some inf ∧ inf.size = k.sz ∧ inf.bytes = E.bytes t ∧ inf.zero = some z ∧ z.cells.toList = k.zero := by
  unfold Ty.k at hk
  unfold Ty.d Ty.bytes Ty.sz
  cases hi : E.tys.lookup t with
  | some i =>
    rw [hi] at hk
    obtain ⟨_, h1, h5, h2⟩ := h t i hi
    obtain ⟨h3, h4, h6⟩ := h2 k hk
    obtain ⟨inf, h7, h8⟩ := Option.map_eq_some_iff.1 h1
    obtain ⟨inf', h9, h10⟩ := Option.map_eq_some_iff.1 h5
    rw [h7] at h9
    cases h9
    obtain ⟨z, h11, h12⟩ := Option.map_eq_some_iff.1 h10
    simp only [Prod.mk.injEq] at h8
    exact ⟨h3, by simp [h4], inf, z, h7, by rw [h4]; exact h8.1, h8.2, h11, by rw [h12, h6]⟩
  | none => rw [hi] at hk; cases hk
theorem VRep_int {w : World} {F : Nat → Prop} {k : IntKind} {x : Int} {v : Value} : VRep w F (.int k) x v ↔ v = .int k x ∧ InR k x := by
  constructor
  . rintro ⟨cs, ⟨h1, h2⟩, h3⟩
    simp only [Kd.isAgg, Bool.false_eq_true, if_false] at h3
    rw [h1] at h3
    exact ⟨by simpa using h3.symm, h2⟩
  . rintro ⟨rfl, h⟩
    exact ⟨_, ⟨rfl, h⟩, by simp [Kd.isAgg]⟩
theorem VRep_bool {w : World} {F : Nat → Prop} {x : Bool} {v : Value} : VRep w F .bool x v ↔ v = .bool x := by
  constructor
  . rintro ⟨cs, h1, h3⟩
    simp only [Kd.isAgg, Bool.false_eq_true, if_false] at h3
    have h1 : cs = [.bool x] := h1
    rw [h1] at h3
    simpa using h3.symm
  . rintro rfl
    exact ⟨_, rfl, by simp [Kd.isAgg]⟩
theorem VRep_err {w : World} {F : Nat → Prop} {x : Bool} {v : Value} : VRep w F .err x v ↔ (x = false ∧ v = .nilIface) ∨ (x = true ∧ ∃ t u, v = .iface t u) := by
  constructor
  . rintro ⟨cs, h1, h3⟩
    simp only [Kd.isAgg, Bool.false_eq_true, if_false] at h3
    rcases h1 with ⟨e, rfl⟩ | ⟨e, t, u, rfl⟩
    . exact .inl ⟨e, by simpa using h3.symm⟩
    . exact .inr ⟨e, t, u, by simpa using h3.symm⟩
  . rintro (⟨e, rfl⟩ | ⟨e, t, u, rfl⟩)
    . exact ⟨_, .inl ⟨e, rfl⟩, by simp [Kd.isAgg]⟩
    . exact ⟨_, .inr ⟨e, t, u, rfl⟩, by simp [Kd.isAgg]⟩
theorem VRep_fn {w : World} {F : Nat → Prop} {x : Nat} {v : Value} : VRep w F .fn x v ↔ (x = 0 ∧ v = .nilFunc) ∨ (∃ n, x = n + 1 ∧ v = .func (.func n) #[] #[]) := by
  constructor
  . rintro ⟨cs, h1, h3⟩
    simp only [Kd.isAgg, Bool.false_eq_true, if_false] at h3
    rcases h1 with ⟨e, rfl⟩ | ⟨n, e, rfl⟩
    . exact .inl ⟨e, by simpa using h3.symm⟩
    . exact .inr ⟨n, e, by simpa using h3.symm⟩
  . rintro (⟨e, rfl⟩ | ⟨n, e, rfl⟩)
    . exact ⟨_, .inl ⟨e, rfl⟩, by simp [Kd.isAgg]⟩
    . exact ⟨_, .inr ⟨n, e, rfl⟩, by simp [Kd.isAgg]⟩
theorem VRep_mp {w : World} {F : Nat → Prop} {k : Kd} {x : (Kd.mp k).T} {v : Value} : VRep w F (.mp k) x v ↔ Rep w F (.mp k) x [v] := by
  constructor
  . rintro ⟨cs, h1, h2⟩
    simp only [Kd.isAgg, Bool.false_eq_true, if_false] at h2
    rw [← h2]; exact h1
  . intro h
    exact ⟨_, h, by simp [Kd.isAgg]⟩
theorem VRep_str {w : World} {F : Nat → Prop} {l : List Int} {v : Value} : VRep w F .str l v ↔ ∃ s : ByteArray, v = .string s ∧ bs s = l ∧ s.size ≤ 9223372036854775807 := by
  constructor
  . rintro ⟨cs, ⟨s, h1, h2, h4⟩, h3⟩
    simp only [Kd.isAgg, Bool.false_eq_true, if_false] at h3
    rw [h1] at h3
    exact ⟨s, by simpa using h3.symm, h2, h4⟩
  . rintro ⟨s, rfl, h⟩
    exact ⟨_, ⟨s, rfl, h⟩, by simp [Kd.isAgg]⟩
theorem VRep_sl {w : World} {F : Nat → Prop} {k : Kd} {xs : List k.T} {v : Value} : VRep w F (.sl k) xs v ↔ ∃ (A : Option Addr) (c : Nat), v = .slice A xs.length c ∧ xs.length ≤ c ∧ c ≤ 9223372036854775807 ∧
      (xs ≠ [] → ∃ ad, A = some ad ∧ ad.block < w.heap.size ∧ ¬ F ad.block ∧ Els w (Rep w F k) k.sz ad xs) := by
  constructor
  . rintro ⟨cs, ⟨A, c, h1, h2⟩, h3⟩
    simp only [Kd.isAgg, Bool.false_eq_true, if_false] at h3
    rw [h1] at h3
    exact ⟨A, c, by simpa using h3.symm, h2⟩
  . rintro ⟨A, c, rfl, h⟩
    exact ⟨_, ⟨A, c, rfl, h⟩, by simp [Kd.isAgg]⟩
theorem wrap_InR (k : IntKind) (n : Int) : InR k (k.wrap n) := by
  cases k <;> simp only [InR, IntKind.min, IntKind.max, IntKind.wrap, IntKind.signed, IntKind.bits, Bool.true_and, Bool.false_and, if_true, Bool.false_eq_true, if_false] <;> first | omega | (split <;> rename_i h <;> simp at h <;> omega)
theorem InR_between {k : IntKind} {x y : Int} (h : InR k x) (hy : (0 ≤ y ∧ y ≤ x) ∨ (x ≤ y ∧ y ≤ 0)) : InR k y := by
  have h0 : k.min ≤ 0 ∧ 0 ≤ k.max := by cases k <;> decide
  obtain ⟨a, b⟩ := h
  exact ⟨by omega, by omega⟩
theorem tmod_between (x y : Int) : (0 ≤ x.tmod y ∧ x.tmod y ≤ x) ∨ (x ≤ x.tmod y ∧ x.tmod y ≤ 0) := by
  rcases Int.le_total 0 x with h | h
  . refine .inl ⟨Int.tmod_nonneg y h, ?_⟩
    have h1 := Int.natAbs_tmod x y
    have h2 : x.natAbs % y.natAbs ≤ x.natAbs := Nat.mod_le _ _
    have h3 := Int.tmod_nonneg y h
    omega
  . have hn : (-x).tmod y = -(x.tmod y) := Int.neg_tmod x y
    have h3 := Int.tmod_nonneg y (show 0 ≤ -x by omega)
    have h1 := Int.natAbs_tmod (-x) y
    have h2 : (-x).natAbs % y.natAbs ≤ (-x).natAbs := Nat.mod_le _ _
    refine .inr ⟨?_, ?_⟩ <;> omega
theorem fdiv_between (x : Int) (n : Nat) : (0 ≤ x.fdiv (2 ^ n) ∧ x.fdiv (2 ^ n) ≤ x) ∨ (x ≤ x.fdiv (2 ^ n) ∧ x.fdiv (2 ^ n) ≤ 0) := by
  have hp : (0 : Int) < 2 ^ n := by exact_mod_cast Nat.pow_pos (n := n) (show 0 < 2 by omega)
  rw [Int.fdiv_eq_ediv_of_nonneg _ (Int.le_of_lt hp)]
  rcases Int.le_total 0 x with h | h
  . exact .inl ⟨Int.ediv_nonneg h (Int.le_of_lt hp), Int.ediv_le_self _ h⟩
  . refine .inr ⟨?_, ?_⟩
    . have := Int.le_ediv_of_mul_le hp (a := x) (b := x) (by
        have : x * 2 ^ n ≤ x * 1 := Int.mul_le_mul_of_nonpos_left h (by omega)
        omega)
      exact this
    . have := Int.ediv_le_ediv hp h
      simpa using this
def cSV : Value → SV
  | .int k n => if k.min ≤ n ∧ n ≤ k.max then .dat (.int k) n else .cst (.int k n)
  | .bool b => .cst (.bool b)
  | .string s => if s.size ≤ 9223372036854775807 then .dat .str (bs s) else .cst (.string s)
  | v => .cst v
theorem cSV_rel (C : Cx) (v : Value) : (cSV v).rel C v := by
  cases v <;> simp only [cSV] <;> try rfl
  case int k n =>
    split
    . rename_i h; exact VRep_int.2 ⟨rfl, h⟩
    . rfl
  case string s =>
    split
    . rename_i h; exact VRep_str.2 ⟨s, rfl, rfl, h⟩
    . rfl
def St.ev (st : St) : Operand → SV
  | .tmp t => match st.sl.lookup t with | some s => s | none => .junk
  | .const v => cSV v
  | .func f => .fn f []
  | .global g => match st.gl.lookup g with
    | some (.arr k xs) => .aar k xs
    | some (.one k x) => .adr k x
    | some (.num _) => .junk
    | some (.raw _) => .junk
    | some .ifc => .junk
    | none => .junk
theorem ev_rel {B : Base} {ρ : Nat → Value} {st : St} {a : Act} {fs : List Act} {w : World} (h : StRel B ρ st a fs w) (x : Operand) :
    (st.ev x).rel (cx B ρ st.hp w) (a.eval x) := by
  cases x with
  | tmp t =>
    simp only [St.ev]
    split
    . rename_i s hs; exact (h.s.2 t s hs).2
    . trivial
  | const v => exact cSV_rel _ v
  | func f => exact ⟨[], rfl, rfl⟩
  | global g =>
    simp only [St.ev]
    split
    . rename_i k xs hs
      obtain ⟨h1, h2, h3⟩ := h.gls g _ hs
      exact ⟨_, rfl, h1, h2, h3⟩
    . rename_i k x hs
      obtain ⟨h1, h2, cs, h3, h4⟩ := h.gls g _ hs
      exact ⟨_, cs, rfl, h3, h1, h2, h4⟩
    . trivial
    . trivial
    . trivial
    . trivial
def SV.ug : SV → List Prop × SV
  | .gd p s => ([p = true], s)
  | s => ([], s)
theorem ug_rel {C : Cx} {s : SV} {v : Value} (h : s.rel C v) (ho : ∀ p ∈ s.ug.1, p) : s.ug.2.rel C v := by
  cases s <;> try exact h
  case gd p s => exact h.1 (ho _ (by simp [SV.ug]))
def ibit (op : BinOp) (k : IntKind) (x y : Int) : Int :=
  match op with
  | .and => k.wrap (BitVec.ofInt k.bits x &&& BitVec.ofInt k.bits y).toNat
  | .or => k.wrap (BitVec.ofInt k.bits x ||| BitVec.ofInt k.bits y).toNat
  | .xor => k.wrap (BitVec.ofInt k.bits x ^^^ BitVec.ofInt k.bits y).toNat
  | _ => k.wrap (BitVec.ofInt k.bits x &&& ~~~ BitVec.ofInt k.bits y).toNat
abbrev PR := Option (List Prop × SV)
def binInt (op : BinOp) (k : IntKind) (x y : Int) : PR :=
  match op with
  | .add => some ([], .dat (.int k) (k.wrap (x + y)))
  | .sub => some ([], .dat (.int k) (k.wrap (x - y)))
  | .mul => some ([], .dat (.int k) (k.wrap (x * y)))
  | .quo => some ([y ≠ 0], .dat (.int k) (k.wrap (x.tdiv y)))
  | .rem => some ([y ≠ 0], .dat (.int k) (x.tmod y))
  | .and => some ([], .dat (.int k) (ibit .and k x y))
  | .or => some ([], .dat (.int k) (ibit .or k x y))
  | .xor => some ([], .dat (.int k) (ibit .xor k x y))
  | .andNot => some ([], .dat (.int k) (ibit .andNot k x y))
  | .eql => some ([], .dat .bool (decide (x = y)))
  | .neq => some ([], .dat .bool (decide (x ≠ y)))
  | .lss => some ([], .dat .bool (decide (x < y)))
  | .leq => some ([], .dat .bool (decide (x ≤ y)))
  | .gtr => some ([], .dat .bool (decide (y < x)))
  | .geq => some ([], .dat .bool (decide (y ≤ x)))
  | _ => none
def binShift (op : BinOp) (k : IntKind) (x y : Int) : PR :=
  match op with
  | .shl => some ([0 ≤ y], .dat (.int k) (k.wrap (x * 2 ^ (min y.toNat k.bits))))
  | .shr => some ([0 ≤ y], .dat (.int k) (x.fdiv (2 ^ (min y.toNat k.bits))))
  | _ => none
def bytesLt : List Int → List Int → Bool
  | _, [] => false
  | [], _ :: _ => true
  | a :: x, b :: y => decide (a < b) || (decide (a = b) && bytesLt x y)
def binStr (op : BinOp) (l m : List Int) : PR :=
  match op with
  | .add => some ([l.length + m.length ≤ 9223372036854775807], .dat .str (l ++ m))
  | .eql => some ([], .dat .bool (decide (l = m)))
  | .neq => some ([], .dat .bool (decide (l ≠ m)))
  | .lss => some ([], .dat .bool (bytesLt l m))
  | .leq => some ([], .dat .bool (bytesLt l m || decide (l = m)))
  | .gtr => some ([], .dat .bool (!(bytesLt l m || decide (l = m))))
  | .geq => some ([], .dat .bool (!bytesLt l m))
  | _ => none
theorem bs_inj {a b : ByteArray} : bs a = bs b ↔ a.toList = b.toList := by
  rw [ByteArray.toList_eq, ByteArray.toList_eq]
  constructor
  . intro h
    exact (List.map_inj_right (fun x y e => UInt8.toNat_inj.1 (by exact_mod_cast e))).1 h
  . intro h; simp only [bs, h]
theorem bytesLt_bs : ∀ (a b : List UInt8), bytesLt (a.map fun b => (b.toNat : Int)) (b.map fun b => (b.toNat : Int)) = Op.bytesLess a b
  | _, [] => by cases ‹List UInt8› <;> rfl
  | [], _ :: _ => rfl
  | a :: x, b :: y => by
    simp only [List.map_cons, bytesLt, Op.bytesLess, bytesLt_bs x y]
    congr 1
    . simp [UInt8.lt_iff_toNat_lt]
    . congr 1
      by_cases h : a = b
      . simp [h]
      . have : ¬ ((a.toNat : Int) = (b.toNat : Int)) := fun e => h (UInt8.toNat_inj.1 (by exact_mod_cast e))
        simp [h, this]
section
variable {P : Program} {w : World} {C : Cx}
theorem binInt_sound {op : BinOp} {k : IntKind} {x y : Int} {obs : List Prop} {s : SV} (h : binInt op k x y = some (obs, s)) (ho : ∀ p ∈ obs, p) (hx : InR k x) (t : TypeId) :
    ∃ v, (binOp op t (.int k x) (.int k y)).run P w = .ok v w ∧ s.rel C v := by
  cases op <;> simp only [binInt] at h <;> (try cases h) <;> simp only [binOp, ne_eq, not_true_eq_false, if_false]
  case add => exact ⟨_, rfl, VRep_int.2 ⟨rfl, wrap_InR _ _⟩⟩
  case sub => exact ⟨_, rfl, VRep_int.2 ⟨rfl, wrap_InR _ _⟩⟩
  case mul => exact ⟨_, rfl, VRep_int.2 ⟨rfl, wrap_InR _ _⟩⟩
  case quo =>
    have : y ≠ 0 := ho _ (by simp)
    exact ⟨_, by simp [Op.intDiv, this], VRep_int.2 ⟨rfl, wrap_InR _ _⟩⟩
  case rem =>
    have : y ≠ 0 := ho _ (by simp)
    exact ⟨_, by simp [Op.intDiv, this], VRep_int.2 ⟨rfl, InR_between hx (tmod_between x y)⟩⟩
  case and => exact ⟨_, rfl, VRep_int.2 ⟨rfl, wrap_InR _ _⟩⟩
  case or => exact ⟨_, rfl, VRep_int.2 ⟨rfl, wrap_InR _ _⟩⟩
  case xor => exact ⟨_, rfl, VRep_int.2 ⟨rfl, wrap_InR _ _⟩⟩
  case andNot => exact ⟨_, rfl, VRep_int.2 ⟨rfl, wrap_InR _ _⟩⟩
  case eql => exact ⟨_, rfl, VRep_bool.2 (by congr 1)⟩
  case neq => exact ⟨_, rfl, VRep_bool.2 (by congr 1; simp [bne]; rfl)⟩
  case lss => exact ⟨_, rfl, VRep_bool.2 rfl⟩
  case leq => exact ⟨_, rfl, VRep_bool.2 rfl⟩
  case gtr => exact ⟨_, rfl, VRep_bool.2 rfl⟩
  case geq => exact ⟨_, rfl, VRep_bool.2 rfl⟩
theorem binShift_sound {op : BinOp} {k k' : IntKind} {x y : Int} {obs : List Prop} {s : SV} (h : binShift op k x y = some (obs, s)) (ho : ∀ p ∈ obs, p) (hx : InR k x) (t : TypeId) :
    ∃ v, (binOp op t (.int k x) (.int k' y)).run P w = .ok v w ∧ s.rel C v := by
  cases op <;> simp only [binShift] at h <;> (try cases h) <;> simp only [binOp]
  case shl =>
    have hy : ¬ y < 0 := by have : 0 ≤ y := ho _ (by simp); omega
    exact ⟨_, by simp only [Op.shift, hy, if_false]; rfl, VRep_int.2 ⟨rfl, wrap_InR _ _⟩⟩
  case shr =>
    have hy : ¬ y < 0 := by have : 0 ≤ y := ho _ (by simp); omega
    exact ⟨_, by simp only [Op.shift, hy, if_false]; rfl, VRep_int.2 ⟨rfl, InR_between hx (fdiv_between x _)⟩⟩
theorem bs_append (a b : ByteArray) : bs (a ++ b) = bs a ++ bs b := by
  simp [bs]
theorem binStr_sound {op : BinOp} {a b : ByteArray} {obs : List Prop} {s : SV} (h : binStr op (bs a) (bs b) = some (obs, s)) (ho : ∀ p ∈ obs, p) (t : TypeId) :
    ∃ v, (binOp op t (.string a) (.string b)).run P w = .ok v w ∧ s.rel C v := by
  have e1 : (a.toList == b.toList) = decide (bs a = bs b) := by
    rw [Bool.eq_iff_iff]; simp [bs_inj]
  have e2 : Op.bytesLess a.toList b.toList = bytesLt (bs a) (bs b) := by
    rw [ByteArray.toList_eq, ByteArray.toList_eq]; exact (bytesLt_bs _ _).symm
  cases op <;> simp only [binStr] at h <;> (try cases h) <;> simp only [binOp]
  case add =>
    have hl : (bs a).length + (bs b).length ≤ 9223372036854775807 := ho _ (by simp)
    rw [bs_length, bs_length] at hl
    exact ⟨_, run_string_add_sum w a b hl, VRep_str.2 ⟨_, rfl, bs_append a b, by rw [ByteArray.size_append]; exact hl⟩⟩
  case eql => exact ⟨_, rfl, VRep_bool.2 (by rw [e1])⟩
  case neq => exact ⟨_, rfl, VRep_bool.2 (by rw [e1]; simp)⟩
  case lss => exact ⟨_, rfl, VRep_bool.2 (by rw [e2])⟩
  case leq => exact ⟨_, rfl, VRep_bool.2 (by rw [e1, e2])⟩
  case gtr => exact ⟨_, rfl, VRep_bool.2 (by rw [e1, e2])⟩
  case geq => exact ⟨_, rfl, VRep_bool.2 (by rw [e2])⟩
end
end Go.Vc
end
section
namespace Go.Vc
open Go.RowKit
def St.row (st : St) (n : Nat) : Option ((k : Kd) × List k.T) :=
  match st.hp[n]? with
  | some (some (.row _ k xs)) => some ⟨k, xs⟩
  | _ => none
theorem St.row_some {st : St} {n : Nat} {k : Kd} {xs : List k.T} (h : st.row n = some ⟨k, xs⟩) : ∃ e, st.hp[n]? = some (some (.row e k xs)) := by
  unfold St.row at h
  split at h
  . rename_i e k' xs' he
    cases h
    exact ⟨e, he⟩
  . cases h
def castT {a b : Kd} (h : a = b) (x : a.T) : b.T := h ▸ x
theorem castT_rfl {a : Kd} (x : a.T) : castT rfl x = x := rfl
def St.list (st : St) : SV → Option ((k : Kd) × List k.T)
  | .dat (.sl k) xs => some ⟨k, xs⟩
  | .own n => st.row n
  | .sub n k0 off len => match st.row n with | some ⟨k, xs⟩ => if k = k0 then some ⟨k, (xs.drop off).take len⟩ else none | none => none
  | _ => none
theorem addr_add (g o j : Nat) : (⟨g, o, none⟩ : Addr).add j = ⟨g, o + j, none⟩ := by
  unfold Addr.add
  split
  . rename_i h; rw [h]; rfl
  . rfl
theorem addr_add_add (a : Addr) (i j : Nat) : (a.add i).add j = a.add (i + j) := by
  by_cases hi : i = 0
  . subst hi; simp [Addr.add]
  . by_cases hj : j = 0
    . subst hj; simp [Addr.add, hi]
    . simp [Addr.add, hi, hj, Nat.add_assoc]
theorem row_rel {C : Cx} {e : Nat} {k : Kd} {xs : List k.T} {v : Value} (h : (Ob.row e k xs).rel C v) :
    ∃ (A : Option Addr) (c : Nat), v = .slice A xs.length c ∧ xs.length ≤ c ∧ c ≤ 9223372036854775807 ∧ (A = none → c = 0 ∧ xs = []) ∧
      ∀ ad, A = some ad → ad.off = 0 ∧ ad.spot = none ∧ ad.block < C.w.heap.size ∧ Els C.w (Rep C.w C.F k) k.sz ad xs ∧ ∃ cells e0 fz, C.w.heap[ad.block]? = some (.cells cells e0 fz) ∧ cells.size = c * k.sz := by
  obtain ⟨inner, ho, hr⟩ := h
  obtain ⟨hl, ⟨rfl, h0⟩ | ⟨g, cap, cur, e0, fz, rfl, hh, hz, hn, hm, hs, htake⟩⟩ := ho.form
  . have : xs = [] := List.eq_nil_of_length_eq_zero h0
    subst this
    exact ⟨none, 0, rfl, Nat.le_refl _, by omega, fun _ => ⟨rfl, rfl⟩, fun ad h => by cases h⟩
  . refine ⟨_, cap, rfl, hn, by simp only [maxLen] at hm; omega, (fun h => by cases h), fun ad h => ?_⟩
    cases h
    refine ⟨rfl, rfl, (Array.getElem?_eq_some_iff.1 hh).1, fun i x hx => ⟨_, hr i x hx, fun j u hu => ?_⟩, cur, e0, fz, hh, hs⟩
    rw [List.getElem?_take] at hu
    split at hu
    . rw [List.getElem?_drop, ← htake, List.getElem?_take] at hu
      split at hu
      . rw [addr_add]
        simp only [World.cell?, hh]
        simpa using hu
      . cases hu
    . cases hu
theorem list_rel {B : Base} {ρ : Nat → Value} {st : St} {a : Act} {fs : List Act} {w : World} (h : StRel B ρ st a fs w) {s : SV} {v : Value} (hs : s.rel (cx B ρ st.hp w) v)
    {k : Kd} {xs : List k.T} (hl : st.list s = some ⟨k, xs⟩) :
    ∃ (A : Option Addr) (c : Nat), v = .slice A xs.length c ∧ xs.length ≤ c ∧ c ≤ 9223372036854775807 ∧
      (xs ≠ [] → ∃ ad, A = some ad ∧ ad.block < w.heap.size ∧ Els w (Rep w (Forb B ρ st.hp) k) k.sz ad xs) := by
  cases s <;> simp only [St.list] at hl <;> try (cases hl; done)
  case dat k' x =>
    cases k' <;> simp only at hl <;> try (cases hl; done)
    cases hl
    obtain ⟨A, c, e, h1, h2, h3⟩ := VRep_sl.1 hs
    exact ⟨A, c, e, h1, h2, fun hne => by obtain ⟨ad, h4, h5, _, h6⟩ := h3 hne; exact ⟨ad, h4, h5, h6⟩⟩
  case own n =>
    obtain ⟨e, he⟩ := St.row_some hl
    obtain ⟨A, c, e1, h1, h2, h3, h4⟩ := row_rel (h.h.obj n _ he)
    refine ⟨A, c, hs.2.1.trans e1, h1, h2, fun hne => ?_⟩
    cases A with
    | none => exact absurd (h3 rfl).2 hne
    | some ad => obtain ⟨_, _, h5, h6, _⟩ := h4 ad rfl; exact ⟨ad, rfl, h5, h6⟩
  case sub n k0 off len =>
    split at hl
    . rename_i k' xs' hrow
      split at hl
      . rename_i hk
        subst hk
        cases hl
        obtain ⟨e, he⟩ := St.row_some hrow
        obtain ⟨A, c, e1, h1, h2, h3, h4⟩ := row_rel (h.h.obj n _ he)
        obtain ⟨_, A0, m, cap, A', cc, e2, e3, h5, hc1, hc2, h6⟩ := hs
        simp only at e2
        rw [e1] at e2
        simp only [Value.slice.injEq] at e2
        obtain ⟨rfl, rfl, rfl⟩ := e2
        have hlen : ((xs'.drop off).take len).length = len := by simp; omega
        refine ⟨A', cc, by rw [hlen]; exact e3, by omega, by omega, fun hne => ?_⟩
        have hpos : 0 < len := by
          rcases Nat.eq_zero_or_pos len with h0 | h0
          . subst h0; simp at hne
          . exact h0
        cases A with
        | none =>
          have := (h3 rfl).2
          subst this
          simp at h5
          omega
        | some ad =>
          rcases h6 with rfl | h6
          . obtain ⟨_, _, h7, h8, _⟩ := h4 ad rfl
            refine ⟨_, rfl, by rw [add_block]; exact h7, fun i x hx => ?_⟩
            rw [List.getElem?_take] at hx
            split at hx
            . rw [List.getElem?_drop] at hx
              obtain ⟨ecs, hr, hc⟩ := h8 (off + i) x hx
              refine ⟨ecs, hr, fun j u hu => ?_⟩
              have := hc j u hu
              rw [addr_add_add, ← Nat.add_assoc, ← Nat.add_mul]
              exact this
            . cases hx
          . omega
      . cases hl
    . cases hl
def leaves : (k : Kd) → k.T → List SV
  | .pair a b, x => leaves a x.1 ++ leaves b x.2
  | .unit, _ => []
  | .int k, x => [.dat (.int k) x]
  | .bool, x => [.dat .bool x]
  | .str, x => [.dat .str x]
  | .sl k, x => [.dat (.sl k) x]
  | .err, x => [.dat .err x]
  | .fn, x => [.dat .fn x]
  | .arr n k, xs => (List.range n).flatMap fun i => leaves k (xs.getD i k.dft)
  | .mp k, x => [.dat (.mp k) x]
def SV.one : SV → Bool
  | .dat k _ => !k.isAgg
  | .cst c => c.oneCell'
  | .tup _ | .agg _ | .junk | .gd _ _ => false
  | _ => true
def SV.cells : SV → Option (List SV)
  | .dat k x => some (leaves k x)
  | .agg l => if l.all SV.one then some l else none
  | .tup _ | .junk | .gd _ _ => none
  | .cst c => if c.oneCell' then some [.cst c] else none
  | s => some [s]
def nilSlice : Value → Bool
  | .slice none 0 0 => true
  | _ => false
theorem nilSlice_eq {v : Value} (h : nilSlice v = true) : v = .slice none 0 0 := by
  unfold nilSlice at h
  split at h
  . rfl
  . cases h
def nilAs : (k : Kd) → Bool → Option k.T
  | .sl _, true => some []
  | _, _ => none
def cstAs : (k : Kd) → Value → Option k.T
  | .bool, .bool b => some b
  | .err, .nilIface => some false
  | .fn, .nilFunc => some (0 : Nat)
  | k, c => nilAs k (nilSlice c)
def fnAs : (k : Kd) → Nat → Option k.T
  | .fn, f => some (f + 1)
  | _, _ => none
def SV.as (k : Kd) : SV → Option k.T
  | .dat k' x => if h : k' = k then some (castT h x) else none
  | .cst c => cstAs k c
  | .fn f [] => fnAs k f
  | _ => none
def unleafL {α : Type} (u : List SV → Option (α × List SV)) : Nat → List SV → Option (List α × List SV)
  | 0, l => some ([], l)
  | n + 1, l => match u l with
    | some (x, l1) => match unleafL u n l1 with
      | some (xs, l2) => some (x :: xs, l2)
      | none => none
    | none => none
def unleaf : (k : Kd) → List SV → Option (k.T × List SV)
  | .pair a b, l => match unleaf a l with
    | some (x, l1) => match unleaf b l1 with
      | some (y, l2) => some ((x, y), l2)
      | none => none
    | none => none
  | .unit, l => some ((), l)
  | .int k, s :: l => match s.as (.int k) with | some x => some (x, l) | none => none
  | .bool, s :: l => match s.as .bool with | some x => some (x, l) | none => none
  | .str, s :: l => match s.as .str with | some x => some (x, l) | none => none
  | .sl k, s :: l => match s.as (.sl k) with | some x => some (x, l) | none => none
  | .err, s :: l => match s.as .err with | some x => some (x, l) | none => none
  | .fn, s :: l => match s.as .fn with | some x => some (x, l) | none => none
  | .mp k, s :: l => match s.as (.mp k) with | some x => some (x, l) | none => none
  | .arr n k, l => unleafL (unleaf k) n l
  | _, [] => none
theorem as_rel {C : Cx} {s : SV} {k : Kd} {x : k.T} {v : Value} (h : s.as k = some x) (hs : s.rel C v) : VRep C.w C.F k x v := by
  cases s <;> simp only [SV.as] at h <;> try (cases h; done)
  case dat k' y =>
    split at h
    . rename_i e
      subst e
      cases h
      exact hs
    . cases h
  case cst c =>
    have hs : v = c := hs
    unfold cstAs at h
    split at h
    . cases h; exact VRep_bool.2 hs
    . cases h; exact VRep_err.2 (.inl ⟨rfl, hs⟩)
    . cases h; exact VRep_fn.2 (.inl ⟨rfl, hs⟩)
    cases hb : nilSlice c with
    | false => rw [hb] at h; cases k <;> cases h
    | true =>
      rw [hb] at h
      cases k <;> try (cases h; done)
      cases h
      exact VRep_sl.2 ⟨none, 0, by rw [hs, nilSlice_eq hb]; rfl, Nat.le_refl _, by omega, fun h => absurd rfl h⟩
  case fn f cap =>
    cases cap with
    | cons _ _ => cases h
    | nil =>
      cases k <;> try (cases h; done)
      cases h
      obtain ⟨vs, e, hv⟩ := hs
      have hv : vs = [] := hv
      subst hv
      exact VRep_fn.2 (.inr ⟨f, rfl, e⟩)
theorem VRep_one {w : World} {F : Nat → Prop} {k : Kd} {x : k.T} {v : Value} (hk : k.isAgg = false) : VRep w F k x v ↔ Rep w F k x [v] := by
  constructor
  . rintro ⟨cs, h1, h2⟩
    rw [hk] at h2
    simp only [Bool.false_eq_true, if_false] at h2
    rw [← h2]; exact h1
  . intro h
    exact ⟨_, h, by simp [hk]⟩
theorem rels_append {C : Cx} : ∀ {l m : List SV} {vs us : List Value}, SV.rels C l vs → SV.rels C m us → SV.rels C (l ++ m) (vs ++ us)
  | [], _, _, _, h, k => by
    have h : _ = _ := h
    subst h; exact k
  | s :: l, m, vs, us, h, k => by
    obtain ⟨v, r, rfl, h1, h2⟩ := h
    exact ⟨v, r ++ us, rfl, h1, rels_append h2 k⟩
theorem rels_length {C : Cx} : ∀ {l : List SV} {vs : List Value}, SV.rels C l vs → vs.length = l.length
  | [], _, h => by have h : _ = _ := h; subst h; rfl
  | _ :: _, _, h => by obtain ⟨v, r, rfl, _, h2⟩ := h; simp [rels_length h2]
theorem rels_get {C : Cx} : ∀ {l : List SV} {vs : List Value}, SV.rels C l vs → ∀ {i : Nat} {s : SV}, l[i]? = some s → ∃ v, vs[i]? = some v ∧ s.rel C v
  | [], _, _, _, _, hi => by cases hi
  | s :: l, _, h, i, s', hi => by
    obtain ⟨v, r, rfl, h1, h2⟩ := h
    cases i with
    | zero => cases hi; exact ⟨v, rfl, h1⟩
    | succ i => exact rels_get h2 (i := i) hi
theorem rels_drop {C : Cx} : ∀ (n : Nat) {l : List SV} {vs : List Value}, SV.rels C l vs → SV.rels C (l.drop n) (vs.drop n)
  | 0, _, _, h => h
  | n + 1, [], _, h => by have h : _ = _ := h; subst h; rfl
  | n + 1, _ :: l, _, h => by obtain ⟨v, r, rfl, _, h2⟩ := h; exact rels_drop n h2
theorem rels_take {C : Cx} : ∀ (n : Nat) {l : List SV} {vs : List Value}, SV.rels C l vs → SV.rels C (l.take n) (vs.take n)
  | 0, _, _, _ => rfl
  | n + 1, [], _, h => by have h : _ = _ := h; subst h; rfl
  | n + 1, _ :: l, _, h => by obtain ⟨v, r, rfl, h1, h2⟩ := h; exact ⟨v, r.take n, rfl, h1, rels_take n h2⟩
theorem range_getD {α : Type} (d : α) (xs : List α) : (List.range xs.length).map (fun i => xs.getD i d) = xs := by
  apply List.ext_getElem
  . simp
  . intro i h1 h2
    simp [List.getD_eq_getElem?_getD, h2]
theorem repL_rel {C : Cx} {α : Type} {rep : α → List Value → Prop} {f : α → List SV} : ∀ {xs : List α} {cs : List Value}, RepL rep xs cs → (∀ x ∈ xs, ∀ c, rep x c → SV.rels C (f x) c) → SV.rels C (xs.flatMap f) cs
  | [], _, h, _ => h
  | x :: xs, _, h, hr => by
    obtain ⟨c1, c2, rfl, h1, h2⟩ := h
    exact rels_append (hr x (by simp) _ h1) (repL_rel h2 fun y hy => hr y (by simp [hy]))
theorem leaves_rel {C : Cx} : ∀ {k : Kd} {x : k.T} {cs : List Value}, Rep C.w C.F k x cs → SV.rels C (leaves k x) cs
  | .pair a b, x, _, h => by
    obtain ⟨c1, c2, rfl, h1, h2⟩ := h
    exact rels_append (leaves_rel h1) (leaves_rel h2)
  | .unit, _, _, h => h
  | .int k, x, cs, h => ⟨_, [], by rw [h.1], VRep_int.2 ⟨rfl, h.2⟩, rfl⟩
  | .bool, x, cs, h => ⟨_, [], h, VRep_bool.2 rfl, rfl⟩
  | .str, x, cs, h => by
    obtain ⟨s, rfl, h2⟩ := h
    exact ⟨_, [], rfl, VRep_str.2 ⟨s, rfl, h2⟩, rfl⟩
  | .sl k, x, cs, h => by
    obtain ⟨A, c, rfl, h2⟩ := h
    exact ⟨_, [], rfl, VRep_sl.2 ⟨A, c, rfl, h2⟩, rfl⟩
  | .err, x, cs, h => by
    rcases h with ⟨e, rfl⟩ | ⟨e, t, u, rfl⟩
    . exact ⟨_, [], rfl, VRep_err.2 (.inl ⟨e, rfl⟩), rfl⟩
    . exact ⟨_, [], rfl, VRep_err.2 (.inr ⟨e, t, u, rfl⟩), rfl⟩
  | .fn, x, cs, h => by
    rcases h with ⟨e, rfl⟩ | ⟨n, e, rfl⟩
    . exact ⟨_, [], rfl, VRep_fn.2 (.inl ⟨e, rfl⟩), rfl⟩
    . exact ⟨_, [], rfl, VRep_fn.2 (.inr ⟨n, e, rfl⟩), rfl⟩
  | .mp k, x, cs, h => by
    have h' := h
    rcases h with ⟨_, rfl⟩ | ⟨_, _, _, rfl, _⟩
    . exact ⟨_, [], rfl, VRep_mp.2 h', rfl⟩
    . exact ⟨_, [], rfl, VRep_mp.2 h', rfl⟩
  | .arr n k, xs, cs, h => by
    obtain ⟨h1, h2⟩ := h
    have h3 := repL_rel (f := leaves k) h2 fun x _ c hc => leaves_rel hc
    have e : (List.range n).flatMap (fun i => leaves k (xs.getD i k.dft)) = xs.flatMap (leaves k) := by
      rw [← h1]
      conv => rhs; rw [← range_getD k.dft xs]
      rw [List.flatMap_map]
    show SV.rels C ((List.range n).flatMap fun i => leaves k (xs.getD i k.dft)) cs
    rw [e]; exact h3
theorem unleafL_rel {C : Cx} {α : Type} {u : List SV → Option (α × List SV)} {rep : α → List Value → Prop} (hu : ∀ l l' vs x, u l = some (x, l') → SV.rels C l vs → ∃ vs1 vs2, vs = vs1 ++ vs2 ∧ rep x vs1 ∧ SV.rels C l' vs2) :
    ∀ {n : Nat} {l l' : List SV} {vs : List Value} {xs : List α}, unleafL u n l = some (xs, l') → SV.rels C l vs → ∃ vs1 vs2, vs = vs1 ++ vs2 ∧ (xs.length = n ∧ RepL rep xs vs1) ∧ SV.rels C l' vs2
  | 0, l, l', vs, xs, h, hr => by
    cases h
    exact ⟨[], vs, rfl, ⟨rfl, rfl⟩, hr⟩
  | n + 1, l, l', vs, xs, h, hr => by
    simp only [unleafL] at h
    split at h
    . rename_i x l1 e1
      split at h
      . rename_i ys l2 e2
        cases h
        obtain ⟨v1, v2, rfl, h1, h2⟩ := hu _ _ _ _ e1 hr
        obtain ⟨v3, v4, rfl, ⟨h3, h5⟩, h4⟩ := unleafL_rel hu e2 h2
        exact ⟨v1 ++ v3, v4, by simp, ⟨by simp [h3], v1, v3, rfl, h1, h5⟩, h4⟩
      . cases h
    . cases h
theorem unleaf_one {C : Cx} {k : Kd} {s : SV} {l : List SV} {vs : List Value} {x : k.T} (hk : k.isAgg = false) (hx : s.as k = some x) (hr : SV.rels C (s :: l) vs) :
    ∃ vs1 vs2, vs = vs1 ++ vs2 ∧ Rep C.w C.F k x vs1 ∧ SV.rels C l vs2 := by
  obtain ⟨v, r, rfl, h1, h2⟩ := hr
  exact ⟨[v], r, rfl, (VRep_one hk).1 (as_rel hx h1), h2⟩
theorem unleaf_rel {C : Cx} : ∀ {k : Kd} {l l' : List SV} {vs : List Value} {x : k.T}, unleaf k l = some (x, l') → SV.rels C l vs →
    ∃ vs1 vs2, vs = vs1 ++ vs2 ∧ Rep C.w C.F k x vs1 ∧ SV.rels C l' vs2
  | .pair a b, l, l', vs, x, h, hr => by
    simp only [unleaf] at h
    split at h
    . rename_i x1 l1 e1
      split at h
      . rename_i x2 l2 e2
        cases h
        obtain ⟨v1, v2, rfl, h1, h2⟩ := unleaf_rel e1 hr
        obtain ⟨v3, v4, rfl, h3, h4⟩ := unleaf_rel e2 h2
        exact ⟨v1 ++ v3, v4, by simp, ⟨v1, v3, rfl, h1, h3⟩, h4⟩
      . cases h
    . cases h
  | .unit, l, l', vs, x, h, hr => by
    cases h
    exact ⟨[], vs, rfl, rfl, hr⟩
  | .int k, s :: l, l', vs, x, h, hr => by
    simp only [unleaf] at h
    split at h
    . rename_i y e; cases h; exact unleaf_one rfl e hr
    . cases h
  | .bool, s :: l, l', vs, x, h, hr => by
    simp only [unleaf] at h
    split at h
    . rename_i y e; cases h; exact unleaf_one rfl e hr
    . cases h
  | .str, s :: l, l', vs, x, h, hr => by
    simp only [unleaf] at h
    split at h
    . rename_i y e; cases h; exact unleaf_one rfl e hr
    . cases h
  | .err, s :: l, l', vs, x, h, hr => by
    simp only [unleaf] at h
    split at h
    . rename_i y e; cases h; exact unleaf_one rfl e hr
    . cases h
  | .sl k, s :: l, l', vs, x, h, hr => by
    simp only [unleaf] at h
    split at h
    . rename_i y e; cases h; exact unleaf_one rfl e hr
    . cases h
  | .fn, s :: l, l', vs, x, h, hr => by
    simp only [unleaf] at h
    split at h
    . rename_i y e; cases h; exact unleaf_one rfl e hr
    . cases h
  | .mp k, s :: l, l', vs, x, h, hr => by
    simp only [unleaf] at h
    split at h
    . rename_i y e; cases h; exact unleaf_one rfl e hr
    . cases h
  | .arr n k, l, l', vs, x, h, hr => by
    have h : unleafL (unleaf k) n l = some (x, l') := by
      cases l <;> exact h
    exact unleafL_rel (fun l l' vs x h hr => unleaf_rel h hr) h hr
  | .fn, [], _, _, _, h, _ => by cases h
  | .mp _, [], _, _, _, h, _ => by cases h
  | .int _, [], _, _, _, h, _ => by cases h
  | .bool, [], _, _, _, h, _ => by cases h
  | .str, [], _, _, _, h, _ => by cases h
  | .sl _, [], _, _, _, h, _ => by cases h
  | .err, [], _, _, _, h, _ => by cases h
theorem cells_rel {C : Cx} {s : SV} {l : List SV} {v : Value} (h : s.cells = some l) (hs : s.rel C v) : SV.rels C l v.cells.toList := by
  have one : ∀ (s : SV) (v : Value), s.rel C v → v.cells = #[v] → SV.rels C [s] v.cells.toList := fun s v h e => ⟨v, [], by rw [e], h, rfl⟩
  cases s <;> simp only [SV.cells] at h <;> try (cases h; done)
  case dat k x =>
    cases h
    obtain ⟨cs, h1, h2⟩ := hs
    split at h2
    . subst h2; exact leaves_rel h1
    . have := h1.one v (by rw [h2]; simp)
      have e : v.cells = #[v] := by cases v <;> first | rfl | cases this
      rw [e, ← h2]
      exact leaves_rel h1
  case agg l' =>
    split at h
    . cases h
      obtain ⟨vs, rfl, h2⟩ := hs
      exact h2
    . cases h
  case cst c =>
    have hs : v = c := hs
    subst hs
    split at h
    . rename_i h1
      cases h
      exact one _ _ rfl (by cases v <;> first | rfl | cases h1)
    . cases h
  case own n =>
    cases h
    obtain ⟨h1, h2, ⟨A, m, c, rfl⟩ | ⟨r, rfl⟩⟩ := hs
    . exact one _ _ ⟨h1, h2, .inl ⟨A, m, c, rfl⟩⟩ rfl
    . exact one _ _ ⟨h1, h2, .inr ⟨r, rfl⟩⟩ rfl
  case sub n k off len =>
    cases h
    have hs' := hs
    obtain ⟨_, A, m, cap, A', cc, _, rfl, _⟩ := hs
    exact one _ _ hs' rfl
  case ptr n o =>
    cases h
    have hs' := hs
    obtain ⟨_, b, _, rfl⟩ := hs
    exact one _ _ hs' rfl
  case rptr n =>
    cases h
    have hs' := hs
    obtain ⟨_, g, m, cap, _, rfl, _⟩ := hs
    exact one _ _ hs' rfl
  case adr k x =>
    cases h
    have hs' := hs
    obtain ⟨ad, cs, rfl, _⟩ := hs
    exact one _ _ hs' rfl
  case oel n k i off =>
    cases h
    have hs' := hs
    obtain ⟨_, g, m, cap, _, _, rfl⟩ := hs
    exact one _ _ hs' rfl
  case fn f cap =>
    cases h
    have hs' := hs
    obtain ⟨vs, rfl, _⟩ := hs
    exact one _ _ hs' rfl
  case ifc t s =>
    cases h
    have hs' := hs
    obtain ⟨u, rfl, _⟩ := hs
    exact one _ _ hs' rfl
  case yld =>
    cases h
    have hs' := hs
    have e : v = _ := hs
    exact one _ _ hs' (by rw [e]; rfl)
  case aar k xs =>
    cases h
    have hs' := hs
    obtain ⟨ad, rfl, _⟩ := hs
    exact one _ _ hs' rfl
theorem one_rel {C : Cx} {s : SV} {v : Value} (h : s.one = true) (hs : s.rel C v) : v.oneCell' = true := by
  cases s <;> simp only [SV.one, Bool.false_eq_true] at h
  case dat k x =>
    obtain ⟨cs, h1, h2⟩ := hs
    rw [if_neg (by simpa using h)] at h2
    exact h1.one v (by rw [h2]; simp)
  case cst c => rw [show v = c from hs]; exact h
  case own n => obtain ⟨_, _, ⟨A, m, c, rfl⟩ | ⟨r, rfl⟩⟩ := hs <;> rfl
  case sub n k off len => obtain ⟨_, A, m, cap, A', cc, _, rfl, _⟩ := hs; rfl
  case ptr n o => obtain ⟨_, b, _, rfl⟩ := hs; rfl
  case rptr n => obtain ⟨_, g, m, cap, _, rfl, _⟩ := hs; rfl
  case adr k x => obtain ⟨ad, cs, rfl, _⟩ := hs; rfl
  case oel n k i off => obtain ⟨_, g, m, cap, _, _, rfl⟩ := hs; rfl
  case fn f cap => obtain ⟨vs, rfl, _⟩ := hs; rfl
  case ifc t s => obtain ⟨u, rfl, _⟩ := hs; rfl
  case yld => rw [show v = _ from hs]; rfl
  case aar k xs => obtain ⟨ad, rfl, _⟩ := hs; rfl
theorem ones_rel {C : Cx} : ∀ {l : List SV} {vs : List Value}, l.all SV.one = true → SV.rels C l vs → ∀ u ∈ vs, u.oneCell' = true
  | [], _, _, h, u, hu => by have h : _ = _ := h; subst h; cases hu
  | s :: l, _, ha, h, u, hu => by
    obtain ⟨v, r, rfl, h1, h2⟩ := h
    simp only [List.all_cons, Bool.and_eq_true] at ha
    rcases List.mem_cons.1 hu with rfl | hu
    . exact one_rel ha.1 h1
    . exact ones_rel ha.2 h2 u hu
theorem cells_one {C : Cx} {s : SV} {l : List SV} {v : Value} (h : s.cells = some l) (hs : s.rel C v) : ∀ u ∈ v.cells.toList, u.oneCell' = true := by
  by_cases ho : s.one = true
  . have := one_rel ho hs
    intro u hu
    have e : v.cells = #[v] := by cases v <;> first | rfl | cases this
    rw [e] at hu
    simp at hu
    subst hu; exact this
  . cases s <;> simp only [SV.cells, SV.one, Bool.not_eq_true', Bool.not_eq_false, not_true_eq_false, Bool.false_eq_true] at h ho <;> try (cases h; done)
    case dat k x =>
      obtain ⟨cs, h1, h2⟩ := hs
      rw [if_pos ho] at h2
      subst h2
      exact h1.one
    case agg l' =>
      split at h
      . rename_i h3
        obtain ⟨vs, rfl, h2⟩ := hs
        exact ones_rel h3 h2
      . cases h
    case cst c =>
      rw [if_neg ho] at h; cases h
end Go.Vc
end
section
namespace Go.Vc
open Go.RowKit
def St.g (st : St) (x : Operand) : List Prop × SV := (st.ev x).ug
def TD.known : TD → Bool
  | .oth => false
  | _ => true
theorem TD.known_some {P : Program} {t : Nat} {d : TD} (h : d.ok P t) (hk : d.known = true) : ∃ u, P.underlying t = some u := by
  cases d <;> simp only [TD.known, Bool.false_eq_true] at hk <;> try exact ⟨_, h⟩
  case st fs => exact ⟨_, h.1⟩
  case fn => obtain ⟨p, r, v, h⟩ := h; exact ⟨_, h⟩
  case ifc => obtain ⟨m, h⟩ := h; exact ⟨_, h⟩
def isU8 : TD → Bool
  | .int .u8 => true
  | _ => false
def utf8 (n : Int) : List Int := bs (Utf8.encode n)
def asBytes : Option ((k : Kd) × List k.T) → Option (List Int)
  | some ⟨.int .u8, xs⟩ => some xs
  | _ => none
def St.conv (E : Ty) (st : St) (src dst : Nat) (s : SV) : PR :=
  if (E.d src).known then
    match E.d dst, s with
    | .int k', .dat (.int _) n => some ([], .dat (.int k') (k'.wrap n))
    | .str, .dat .str l => some ([], .dat .str l)
    | .str, .dat (.int _) n => some ([(utf8 n).length ≤ 4], .dat .str (utf8 n))
    | .str, s => match E.d src with
      | .sl e => if isU8 (E.d e) then
          match asBytes (st.list s) with
          | some xs => some ([], .dat .str xs)
          | none => match s with
            | .cst c => if nilSlice c then some ([], .dat .str []) else none
            | _ => none
        else none
      | _ => none
    | _, _ => none
  else none
def St.len (E : Ty) (st : St) (t : Nat) (s : SV) : PR :=
  match E.d t, s with
  | .str, .dat .str l => some ([], .dat (.int .i64) (l.length : Int))
  | .sl _, .sub n _ _ len => match st.row n with | some _ => some ([], .dat (.int .i64) (len : Int)) | none => none
  | .sl _, .cst c => if nilSlice c then some ([], .dat (.int .i64) 0) else none
  | .sl _, s => match st.list s with
    | some ⟨_, xs⟩ => some ([], .dat (.int .i64) (xs.length : Int))
    | none => none
  | _, _ => none
theorem isU8_eq {d : TD} (h : isU8 d = true) : d = .int .u8 := by
  unfold isU8 at h
  split at h
  . rfl
  . cases h
theorem asBytes_eq {o : Option ((k : Kd) × List k.T)} {xs : List Int} (h : asBytes o = some xs) : o = some ⟨.int .u8, xs⟩ := by
  unfold asBytes at h
  split at h
  . cases h; rfl
  . cases h
theorem bs_strOfNums (xs : List Int) (h : ∀ x ∈ xs, 0 ≤ x ∧ x ≤ 255) : bs (strOfNums xs) = xs := by
  unfold bs
  rw [strOfNums_data, List.map_map]
  conv => rhs; rw [← List.map_id xs]
  refine List.map_congr_left fun x hx => ?_
  have := h x hx
  simp [UInt8.toNat_ofNat']
  omega
section
variable {E : Ty} {B : Base} {ρ : Nat → Value} {st : St} {a : Act} {fs : List Act} {w : World} {obs : List Prop} {s : SV} {v : Value}
theorem g_rel (h : StRel B ρ st a fs w) (x : Operand) (ho : ∀ p ∈ (st.g x).1, p) : (st.g x).2.rel (cx B ρ st.hp w) (a.eval x) := ug_rel (ev_rel h x) ho
theorem conv_bytes {P : Program} {src dst e : Nat} (hs : P.underlying src = some (.slice e)) (he : P.underlying e = some (.int .u8)) (hd : P.underlying dst = some .string)
    {A : Option Addr} {c : Nat} {xs : List Int} (F : Nat → Prop) (hx : xs ≠ [] → ∃ ad, A = some ad ∧ ad.block < w.heap.size ∧ Els w (Rep w F (.int .u8)) 1 ad xs) (hl : xs.length ≤ 9223372036854775807) :
    ∃ v, (convert src dst (.slice A xs.length c)).run P w = .ok v w ∧ VRep w F .str xs v := by
  by_cases hne : xs = []
  . subst hne
    refine ⟨_, ?_, VRep_str.2 ⟨⟨#[]⟩, rfl, rfl, by simp [ByteArray.size]⟩⟩
    cases A with
    | none => exact run_convert_bytes_nil w src e hs he 0 c dst hd
    | some ad =>
      simp only [convert, Sem.run_bind, run_underlying hs, run_underlying hd, run_underlying he, Result.andThen_ok]
      simp [Conv.bytesToString, loadCells, loadCellsFrom]
      rfl
  . obtain ⟨ad, rfl, hlt, hels⟩ := hx hne
    have hcell : ∀ i, i < xs.length → w.cell? (ad.add i) = some (.int .u8 (xs.getD i 0)) ∧ InR .u8 (xs.getD i 0) := by
      intro i hi
      obtain ⟨ecs, ⟨rfl, hr⟩, hc⟩ := hels i xs[i] (List.getElem?_eq_getElem hi)
      have := hc 0 _ rfl
      simp only [Nat.mul_one, Nat.add_zero] at this
      rw [List.getD_eq_getElem?_getD, List.getElem?_eq_getElem hi]
      exact ⟨this, hr⟩
    have hpos : 0 < xs.length := List.length_pos_iff.2 hne
    obtain ⟨b, o, sp⟩ := ad
    have hsp : sp = none := by
      have := (hcell 0 hpos).1
      simp only [Addr.add, if_true] at this
      cases sp with
      | none => rfl
      | some z => simp [World.cell?] at this; split at this <;> simp_all
    subst hsp
    refine ⟨_, run_convert_bytes_arg w src e hs he b o xs.length c xs rfl (fun i hi => ?_) dst hd, VRep_str.2 ⟨_, rfl, bs_strOfNums xs (fun x hx => ?_), by rw [strOfNums_size]; exact hl⟩⟩
    . have := (hcell i hi).1
      rwa [addr_add] at this
    . obtain ⟨i, hi, rfl⟩ := List.mem_iff_getElem.1 hx
      have := (hcell i hi).2
      rw [List.getD_eq_getElem?_getD, List.getElem?_eq_getElem hi] at this
      exact this
theorem conv_sound (hE : E.Ok) (h : StRel B ρ st a fs w) {src dst : Nat} {s' : SV} (hop : st.conv E src dst s = some (obs, s')) (ho : ∀ p ∈ obs, p) (hs : s.rel (cx B ρ st.hp w) v) :
    ∃ v', (convert src dst v).run E.P w = .ok v' w ∧ s'.rel (cx B ρ st.hp w) v' := by
  unfold St.conv at hop
  split at hop
  . rename_i hk
    obtain ⟨u, hu⟩ := TD.known_some (hE.d src) hk
    have hd := hE.d dst
    split at hop
    . rename_i k' k n e1
      rw [e1] at hd
      cases hop
      obtain ⟨rfl, _⟩ := VRep_int.1 hs
      exact ⟨_, by simp [convert, run_underlying hu, run_underlying (show E.P.underlying dst = some (.int k') from hd), Conv.intToInt], VRep_int.2 ⟨rfl, wrap_InR _ _⟩⟩
    . rename_i l e1
      rw [e1] at hd
      cases hop
      obtain ⟨s, rfl, h2⟩ := VRep_str.1 hs
      exact ⟨_, by simp [convert, run_underlying hu, run_underlying (show E.P.underlying dst = some .string from hd)], VRep_str.2 ⟨s, rfl, h2⟩⟩
    . rename_i k n e1
      rw [e1] at hd
      cases hop
      obtain ⟨rfl, _⟩ := VRep_int.1 hs
      refine ⟨_, by simp [convert, run_underlying hu, run_underlying (show E.P.underlying dst = some .string from hd), Conv.intToString], VRep_str.2 ⟨_, rfl, rfl, ?_⟩⟩
      have : (utf8 n).length ≤ 4 := ho _ (by simp)
      rw [← bs_length]
      unfold utf8 at this
      omega
    . rename_i e1 _ _
      rw [e1] at hd
      split at hop
      . rename_i e e2
        have hsrc := hE.d src
        rw [e2] at hsrc
        split at hop
        . rename_i h8
          have he := hE.d e
          rw [isU8_eq h8] at he
          split at hop
          . rename_i xs hx
            cases hop
            obtain ⟨A, c, rfl, h1, h2, h3⟩ := list_rel h hs (asBytes_eq hx)
            exact conv_bytes hsrc he hd _ h3 (by omega)
          . split at hop
            . split at hop
              . rename_i hn
                cases hop
                rw [show v = _ from hs, nilSlice_eq hn]
                exact ⟨_, run_convert_bytes_nil w src e hsrc he 0 0 dst hd, VRep_str.2 ⟨⟨#[]⟩, rfl, rfl, by simp [ByteArray.size]⟩⟩
              . cases hop
            . cases hop
        . cases hop
      . cases hop
    . cases hop
  . cases hop
theorem goInt_rel {C : Cx} {n : Nat} (h : n ≤ 9223372036854775807) : (SV.dat (.int .i64) (n : Int)).rel C (goInt n) :=
  VRep_int.2 ⟨rfl, by constructor <;> simp [IntKind.min, IntKind.max, IntKind.signed, IntKind.bits] <;> omega⟩
theorem len_sound (hE : E.Ok) (h : StRel B ρ st a fs w) {t ty : Nat} {s' : SV} (hop : st.len E t s = some (obs, s')) (hs : s.rel (cx B ρ st.hp w) v) :
    ∃ v', (Builtin.len_ #[t] ty #[v]).run E.P w = .ok v' w ∧ s'.rel (cx B ρ st.hp w) v' := by
  have hd := hE.d t
  unfold St.len at hop
  split at hop
  . rename_i l e1
    rw [e1] at hd
    cases hop
    obtain ⟨s, rfl, h2, h3⟩ := VRep_str.1 hs
    refine ⟨_, run_len_string (P := E.P) w t ty s hd, ?_⟩
    rw [← h2, bs_length]
    exact goInt_rel h3
  . rename_i e n k off len e1
    rw [e1] at hd
    split at hop
    . rename_i row hrow
      cases hop
      obtain ⟨k', xs⟩ := row
      obtain ⟨e', he⟩ := St.row_some hrow
      obtain ⟨A, c, e3, h1, h2, _⟩ := row_rel (h.h.obj n _ he)
      obtain ⟨_, A0, m, cap, A', cc, e4, rfl, h5, _⟩ := hs
      simp only at e4
      rw [e3] at e4
      simp only [Value.slice.injEq] at e4
      obtain ⟨_, rfl, _⟩ := e4
      exact ⟨_, by simp [Builtin.len_, run_underlying (show E.P.underlying t = some (.slice e) from hd)], goInt_rel (by omega)⟩
    . cases hop
  . rename_i e c e1
    rw [e1] at hd
    split at hop
    . rename_i hn
      cases hop
      have hs : v = c := hs
      rw [hs, nilSlice_eq hn]
      exact ⟨_, by simp [Builtin.len_, run_underlying (show E.P.underlying t = some (.slice e) from hd)], goInt_rel (n := 0) (by omega)⟩
    . cases hop
  . rename_i e e1 _ _
    rw [e1] at hd
    split at hop
    . rename_i k xs hx
      cases hop
      obtain ⟨A, c, rfl, h1, h2, h3⟩ := list_rel h hs hx
      exact ⟨_, by simp [Builtin.len_, run_underlying (show E.P.underlying t = some (.slice e) from hd)], goInt_rel (by omega)⟩
    . cases hop
  . cases hop
end
def St.index (E : Ty) (t : Nat) (s : SV) (j : Int) : PR :=
  match E.d t, s with
  | .str, .dat .str l => some ([0 ≤ j ∧ j < l.length], .dat (.int .u8) (l.getD j.toNat 0))
  | _, _ => none
def St.indexAddr (E : Ty) (st : St) (t : Nat) (s : SV) (j : Int) : PR :=
  match E.d t, s with
  | .sl e, .dat (.sl k) xs => if E.k e = some k then some ([0 ≤ j ∧ j < xs.length], .adr k (xs.getD j.toNat k.dft)) else none
  | .sl e, .own n => match st.row n with
    | some ⟨k, xs⟩ => if E.k e = some k then some ([0 ≤ j ∧ j < xs.length], .oel n k j.toNat 0) else none
    | none => none
  | .sl e, .sub n k off len => match st.row n with
    | some _ => if E.k e = some k then some ([0 ≤ j ∧ j < len], .oel n k (off + j.toNat) 0) else none
    | none => none
  | .arr m e, .rptr n => match st.row n with
    | some ⟨k, xs⟩ => if E.k e = some k then some ([0 ≤ j ∧ j < m ∧ j < xs.length], .oel n k j.toNat 0) else none
    | none => none
  | .arr m e, .aar k xs => if E.k e = some k then some ([0 ≤ j ∧ j < m ∧ j < xs.length], .adr k (xs.getD j.toNat k.dft)) else none
  | .arr m e, .ptr n o => match E.sz e with
    | some z => some ([0 ≤ j ∧ j < m], .ptr n (o + j.toNat * z))
    | none => none
  | _, _ => none
def ofCells1 (agg : Bool) (z : Nat) (l : List SV) : Option SV :=
  match agg, l with
  | true, l => if l.length = z then some (.agg l) else none
  | false, [s] => if z = 1 then some s else none
  | false, _ => none
def nilOnly : List SV → Bool
  | [.cst .nilFunc] => true
  | [.cst c] => nilSlice c
  | [.fn _ _] => true
  | _ => false
def allNil : List SV → Bool
  | .cst c :: .cst d :: l => nilSlice c && nilSlice d && l.all fun s => match s with
    | .cst e => nilSlice e
    | _ => false
  | _ => false
def ofCells (E : Ty) (t : Nat) (l : List SV) : Option SV :=
  match (E.d t).known, E.k t, E.sz t with
  | true, some k, some z => if (nilOnly l && !(E.d t).isAgg) || (allNil l && (E.d t).isAgg) then ofCells1 (E.d t).isAgg z l else match unleaf k l with
    | some (x, []) => some (.dat k x)
    | _ => ofCells1 (E.d t).isAgg z l
  | true, none, some z => ofCells1 (E.d t).isAgg z l
  | _, _, _ => none
def St.load (E : Ty) (st : St) (t : Nat) (s : SV) : PR :=
  match s with
  | .adr k x => if E.k t = some k ∧ (E.d t).known = true then some ([], .dat k x) else none
  | .oel n k i off => match st.row n, E.k t with
    | some ⟨k0, xs⟩, some kt => if h : k0 = k then
        match unleaf kt (((leaves k (castT h (xs.getD i k0.dft))).drop off).take kt.sz) with
        | some (y, []) => if (E.d t).known then some ([], .dat kt y) else none
        | _ => none
      else none
    | _, _ => none
  | .ptr n o => match st.hp[n]?, E.sz t with
    | some (some (.var _ cs)), some z => match ofCells E t ((cs.drop o).take z) with
      | some s => some ([], s)
      | none => none
    | _, _ => none
  | .rptr n => match E.d t, st.row n with
    | .arr m e, some ⟨k, xs⟩ => if E.k e = some k ∧ k.isAgg = false ∧ E.sz t = some m then some ([xs.length = m], .dat (.arr m k) xs) else none
    | _, _ => none
  | _ => none
section
variable {E : Ty} {B : Base} {ρ : Nat → Value} {st : St} {a : Act} {fs : List Act} {w : World} {obs : List Prop} {s : SV} {v : Value}
theorem bs_getD (s : ByteArray) (i : Nat) (h : i < s.size) : (bs s).getD i 0 = ((s[i]'h).toNat : Int) := by
  have : i < s.data.toList.length := by simpa using h
  simp [bs, List.getD_eq_getElem?_getD]
  rw [Array.getElem?_eq_getElem (by simpa using h)]
  rfl
theorem index_sound (hE : E.Ok) {t : Nat} {s' : SV} {k : IntKind} {j : Int} {C : Cx} (hop : St.index E t s j = some (obs, s')) (ho : ∀ p ∈ obs, p) (hs : s.rel C v) :
    ∃ v', (Instr.index t v (.int k j)).run E.P w = .ok v' w ∧ s'.rel C v' := by
  have hd := hE.d t
  unfold St.index at hop
  split at hop
  . rename_i l e1
    rw [e1] at hd
    cases hop
    obtain ⟨s, rfl, rfl, h3⟩ := VRep_str.1 hs
    have hj : 0 ≤ j ∧ j < ((bs s).length : Int) := ho _ (by simp)
    rw [bs_length] at hj
    have hlt : j.toNat < s.size := by omega
    refine ⟨_, by rw [run_index_string (P := E.P) w t s k j hd, dif_pos hj], ?_⟩
    rw [bs_getD s _ hlt]
    refine VRep_int.2 ⟨rfl, ?_⟩
    have := (s[j.toNat]'hlt).toNat_lt
    constructor <;> simp [IntKind.min, IntKind.max, IntKind.signed, IntKind.bits] <;> omega
  . cases hop
theorem run_sizeOf {P : Program} {t : Nat} {inf : TypeInfo} (h : P.info? t = some inf) : (sizeOf t).run P w = .ok inf.size w := by
  simp [sizeOf, typeInfo, h]
theorem indexAddr_sound (hE : E.Ok) (h : StRel B ρ st a fs w) {t : Nat} {s' : SV} {k : IntKind} {j : Int} (hop : st.indexAddr E t s j = some (obs, s')) (ho : ∀ p ∈ obs, p) (hs : s.rel (cx B ρ st.hp w) v) :
    ∃ v', (Instr.indexAt t v (.int k j)).run E.P w = .ok v' w ∧ s'.rel (cx B ρ st.hp w) v' := by
  have hd := hE.d t
  unfold St.indexAddr at hop
  split at hop
  . rename_i e kk xs e1
    rw [e1] at hd
    have hd : E.P.underlying t = some (.slice e) := hd
    split at hop
    . rename_i hk
      cases hop
      obtain ⟨_, _, inf, z, hi, hsz, _⟩ := hE.k hk
      have hj : 0 ≤ j ∧ j < (xs.length : Int) := ho _ (by simp)
      obtain ⟨A, c, rfl, h1, h2, h3⟩ := VRep_sl.1 hs
      obtain ⟨ad, rfl, h4, h5, h6⟩ := h3 (fun e => by rw [e] at hj; simp at hj; omega)
      have hlt : j.toNat < xs.length := by omega
      obtain ⟨ecs, h7, h8⟩ := h6 j.toNat xs[j.toNat] (List.getElem?_eq_getElem hlt)
      refine ⟨_, by simp [Instr.indexAt, asIntOf, run_underlying hd, hj, run_sizeOf hi]; rfl, _, ecs, rfl, ?_, by rw [add_block]; exact h4, by rw [add_block]; exact h5, fun i u hu => ?_⟩
      . rw [List.getD_eq_getElem?_getD, List.getElem?_eq_getElem hlt]; exact h7
      . rw [hsz, addr_add_add]; exact h8 i u hu
    . cases hop
  . rename_i e n e1
    rw [e1] at hd
    have hd : E.P.underlying t = some (.slice e) := hd
    split at hop
    . rename_i kk xs hrow
      split at hop
      . rename_i hk
        cases hop
        obtain ⟨_, _, inf, z, hi, hsz, _⟩ := hE.k hk
        have hj : 0 ≤ j ∧ j < (xs.length : Int) := ho _ (by simp)
        obtain ⟨e', he⟩ := St.row_some hrow
        obtain ⟨A, c, e3, h1, h2, h3, h4⟩ := row_rel (h.h.obj n _ he)
        obtain ⟨hn, rfl, _⟩ := hs
        cases A with
        | none => have := (h3 rfl).2; subst this; simp at hj; omega
        | some ad =>
          obtain ⟨ho1, ho2, h5, _⟩ := h4 ad rfl
          obtain ⟨b, o, sp⟩ := ad
          simp only at ho1 ho2
          subst ho1 ho2
          refine ⟨_, by rw [show (cx B ρ st.hp w).ρ n = ρ n from rfl, e3]; simp [Instr.indexAt, asIntOf, run_underlying hd, hj, run_sizeOf hi]; rfl, hn, b, xs.length, c, e3, by omega, ?_⟩
          rw [hsz]; rfl
      . cases hop
    . cases hop
  . rename_i e n kk off len e1
    rw [e1] at hd
    have hd : E.P.underlying t = some (.slice e) := hd
    split at hop
    . rename_i row hrow
      split at hop
      . rename_i hk
        cases hop
        obtain ⟨k', xs⟩ := row
        obtain ⟨_, _, inf, z, hi, hsz, _⟩ := hE.k hk
        have hj : 0 ≤ j ∧ j < (len : Int) := ho _ (by simp)
        obtain ⟨e', he⟩ := St.row_some hrow
        obtain ⟨A, c, e3, h1, h2, h3, h4⟩ := row_rel (h.h.obj n _ he)
        obtain ⟨hn, A0, m, cap, A', cc, e4, rfl, h5, hc1, hc2, h6⟩ := hs
        simp only at e4
        have e5 := e4
        rw [e3] at e4
        simp only [Value.slice.injEq] at e4
        obtain ⟨rfl, rfl, rfl⟩ := e4
        cases A with
        | none => have := (h3 rfl).2; subst this; simp at h5; omega
        | some ad =>
          obtain ⟨ho1, ho2, h7, _⟩ := h4 ad rfl
          obtain ⟨b, o, sp⟩ := ad
          simp only at ho1 ho2
          subst ho1 ho2
          rcases h6 with rfl | h6
          . refine ⟨_, by simp [Instr.indexAt, asIntOf, run_underlying hd, hj, run_sizeOf hi]; rfl, hn, b, xs.length, c, e5, by omega, ?_⟩
            rw [hsz, addr_add_add, Nat.add_mul]; rfl
          . omega
      . cases hop
    . cases hop
  . rename_i m e n e1
    rw [e1] at hd
    have hd : E.P.underlying t = some (.array m e) := hd
    split at hop
    . rename_i kk xs hrow
      split at hop
      . rename_i hk
        cases hop
        obtain ⟨_, _, inf, z, hi, hsz, _⟩ := hE.k hk
        have hj : 0 ≤ j ∧ j < (m : Int) ∧ j < (xs.length : Int) := ho _ (by simp)
        obtain ⟨e', he⟩ := St.row_some hrow
        obtain ⟨A, c, e3, h1, h2, h3, h4⟩ := row_rel (h.h.obj n _ he)
        obtain ⟨hn, g, m', cap, e4, rfl, _⟩ := hs
        simp only at e4
        have e5 := e4
        rw [e3] at e4
        simp only [Value.slice.injEq] at e4
        obtain ⟨rfl, rfl, rfl⟩ := e4
        refine ⟨_, by simp [Instr.indexAt, Instr.sureAddr, asIntOf, run_underlying hd, hj.1, hj.2.1, run_sizeOf hi]; rfl, hn, g, xs.length, c, e5, by omega, ?_⟩
        rw [hsz]; rfl
      . cases hop
    . cases hop
  . rename_i m e kk xs e1
    rw [e1] at hd
    have hd : E.P.underlying t = some (.array m e) := hd
    split at hop
    . rename_i hk
      cases hop
      obtain ⟨_, _, inf, z, hi, hsz, _⟩ := hE.k hk
      have hj : 0 ≤ j ∧ j < (m : Int) ∧ j < (xs.length : Int) := ho _ (by simp)
      obtain ⟨ad, rfl, h4, h5, h6⟩ := hs
      have hlt : j.toNat < xs.length := by omega
      obtain ⟨ecs, h7, h8⟩ := h6 j.toNat xs[j.toNat] (List.getElem?_eq_getElem hlt)
      refine ⟨_, by simp [Instr.indexAt, Instr.sureAddr, asIntOf, run_underlying hd, hj.1, hj.2.1, run_sizeOf hi]; rfl, _, ecs, rfl, ?_, by rw [add_block]; exact h4, by rw [add_block]; exact h5, fun i u hu => ?_⟩
      . rw [List.getD_eq_getElem?_getD, List.getElem?_eq_getElem hlt]; exact h7
      . rw [hsz, addr_add_add]; exact h8 i u hu
    . cases hop
  . rename_i m e n o e1
    rw [e1] at hd
    have hd : E.P.underlying t = some (.array m e) := hd
    split at hop
    . rename_i z hz
      cases hop
      obtain ⟨inf, hi, hsz, _⟩ := hE.sz hz
      have hj : 0 ≤ j ∧ j < (m : Int) := ho _ (by simp)
      obtain ⟨hn, b, e2, rfl⟩ := hs
      refine ⟨_, by simp [Instr.indexAt, Instr.sureAddr, asIntOf, run_underlying hd, hj.1, hj.2, run_sizeOf hi]; rfl, hn, b, e2, ?_⟩
      rw [hsz, addr_add]
    . cases hop
  . cases hop
theorem run_isAgg {P : Program} {t : Nat} {d : TD} (h : d.ok P t) (hk : d.known = true) : (isAgg t).run P w = .ok d.isAgg w := by
  cases d <;> simp only [TD.known, Bool.false_eq_true] at hk
  case st fs => simp [isAgg, run_underlying h.1, TD.isAgg]
  case fn => obtain ⟨p, r, v, h⟩ := h; simp [isAgg, run_underlying h, TD.isAgg]
  case ifc => obtain ⟨m, h⟩ := h; simp [isAgg, run_underlying h, TD.isAgg]
  all_goals (have h : P.underlying t = _ := h; simp [isAgg, run_underlying h, TD.isAgg])
theorem run_loadVar {P : Program} {t : Nat} {d : TD} (h : d.ok P t) (hk : d.known = true) {inf : TypeInfo} (hi : P.info? t = some inf) {ad : Addr} {cs : List Value}
    (hl : cs.length = inf.size) (h1 : d.isAgg = false → cs.length = 1) (hc : ∀ (j : Nat) (u : Value), cs[j]? = some u → w.cell? (ad.add j) = some u) :
    (loadVar t ad).run P w = .ok (if d.isAgg then .agg cs.toArray else cs.headD undef) w := by
  unfold loadVar
  simp only [Sem.run_bind, run_isAgg h hk, Result.andThen_ok]
  cases hb : d.isAgg with
  | true =>
    simp only [if_true, Sem.run_bind, run_sizeOf hi, Result.andThen_ok, ← hl, run_loadCells_list w ad cs hc]
    rfl
  | false =>
    have hl1 := h1 hb
    match cs, hl1 with
    | [c], _ =>
      have := hc 0 c rfl
      simp only [Addr.add, if_true] at this
      simp [load, Sem.run, this]
theorem unleaf_all {C : Cx} {k : Kd} {l : List SV} {vs : List Value} {x : k.T} (h : unleaf k l = some (x, [])) (hr : SV.rels C l vs) : Rep C.w C.F k x vs := by
  obtain ⟨v1, v2, rfl, h1, h2⟩ := unleaf_rel h hr
  have h2 : v2 = [] := h2
  subst h2
  simpa using h1
theorem VRep_of_cells {C : Cx} {k : Kd} {x : k.T} {cs : List Value} (h : Rep C.w C.F k x cs) : VRep C.w C.F k x (if k.isAgg then .agg cs.toArray else cs.headD undef) := by
  refine ⟨cs, h, ?_⟩
  split
  . rfl
  . rename_i hk
    have hl := h.length
    have : k.sz = 1 := by cases k <;> simp_all [Kd.sz, Kd.isAgg]
    rw [this] at hl
    match cs, hl with
    | [c], _ => rfl
theorem sz_one {k : Kd} (h : k.isAgg = false) : k.sz = 1 := by
  cases k <;> first | rfl | cases h
theorem ofCells1_rel {agg : Bool} {z : Nat} {l : List SV} {s' : SV} {C : Cx} (hop : ofCells1 agg z l = some s') {vs : List Value} (hr : SV.rels C l vs) :
    vs.length = z ∧ (agg = false → vs.length = 1) ∧ s'.rel C (if agg then .agg vs.toArray else vs.headD undef) := by
  have hlen := rels_length hr
  unfold ofCells1 at hop
  split at hop
  . split at hop
    . rename_i e5
      cases hop
      exact ⟨by omega, (fun h => by cases h), vs, rfl, hr⟩
    . cases hop
  . split at hop
    . rename_i e4
      cases hop
      obtain ⟨v, r, rfl, h1, h2⟩ := hr
      have h2 : r = [] := h2
      subst h2
      exact ⟨e4.symm, (fun _ => rfl), h1⟩
    . cases hop
  . cases hop
theorem ofCells_rel (hE : E.Ok) {t : Nat} {l : List SV} {s' : SV} {C : Cx} (hop : ofCells E t l = some s') {vs : List Value} (hr : SV.rels C l vs) :
    (E.d t).known = true ∧ (∃ z, E.sz t = some z ∧ vs.length = z) ∧ ((E.d t).isAgg = false → vs.length = 1) ∧ s'.rel C (if (E.d t).isAgg then .agg vs.toArray else vs.headD undef) := by
  unfold ofCells at hop
  split at hop
  . rename_i k z e1 e2 e3
    obtain ⟨hagg, hsz, _⟩ := hE.k e2
    refine ⟨e1, ?_⟩
    by_cases hno : ((nilOnly l && !(E.d t).isAgg) || (allNil l && (E.d t).isAgg)) = true
    . rw [if_pos hno] at hop
      obtain ⟨h1, h2⟩ := ofCells1_rel hop hr
      exact ⟨⟨z, e3, h1⟩, h2⟩
    rw [if_neg hno] at hop
    split at hop
    . rename_i x e4
      cases hop
      have h1 := unleaf_all e4 hr
      refine ⟨⟨_, hsz, h1.length⟩, fun hk => ?_, ?_⟩
      . rw [h1.length]; exact sz_one (by rw [hagg]; exact hk)
      . rw [← hagg]; exact VRep_of_cells h1
    . obtain ⟨h1, h2⟩ := ofCells1_rel hop hr
      exact ⟨⟨z, e3, h1⟩, h2⟩
  . rename_i z e1 e2 e3
    obtain ⟨h1, h2⟩ := ofCells1_rel hop hr
    exact ⟨e1, ⟨z, e3, h1⟩, h2⟩
  . cases hop
theorem repL_ones {α : Type} {rep : α → List Value → Prop} : ∀ {xs : List α} {cs : List Value}, cs.length = xs.length → (∀ (i : Nat) (x : α), xs[i]? = some x → rep x ((cs.drop i).take 1)) → RepL rep xs cs
  | [], cs, h, _ => List.length_eq_zero_iff.1 h
  | x :: xs, [], h, _ => by simp at h
  | x :: xs, c :: cs, h, hr => ⟨[c], cs, rfl, by simpa using hr 0 x rfl, repL_ones (by simpa using h) fun i y hy => by simpa using hr (i + 1) y hy⟩
theorem load_sound (hE : E.Ok) (h : StRel B ρ st a fs w) {t : Nat} {s' : SV} (hop : st.load E t s = some (obs, s')) (ho : ∀ p ∈ obs, p) (hs : s.rel (cx B ρ st.hp w) v) :
    ∃ v', (Instr.loadAt t v).run E.P w = .ok v' w ∧ s'.rel (cx B ρ st.hp w) v' := by
  have hd := hE.d t
  unfold St.load at hop
  split at hop
  . rename_i k x
    split at hop
    . rename_i hk
      cases hop
      obtain ⟨hagg, _, inf, z, hi, hsz, _⟩ := hE.k hk.1
      obtain ⟨ad, cs, rfl, h1, h2, h3, h4⟩ := hs
      refine ⟨_, by simp only [Instr.loadAt, Instr.sureAddr, Sem.run_bind, Sem.run_pure, Result.andThen_ok]; exact run_loadVar hd hk.2 hi (h1.length.trans hsz.symm) (fun hb => by rw [h1.length]; exact sz_one (by rw [hagg]; exact hb)) h4, ?_⟩
      rw [← hagg]
      exact VRep_of_cells h1
    . cases hop
  . rename_i n k i off
    split at hop
    . rename_i k0 xs kt hrow hkt
      split at hop
      . rename_i hk
        subst hk
        split at hop
        . rename_i y hy
          split at hop
          . rename_i hkn
            cases hop
            obtain ⟨hagg, _, inf, z, hi, hsz, _⟩ := hE.k hkt
            obtain ⟨e', he⟩ := St.row_some hrow
            obtain ⟨A, c, e3, h1, h2, h3, h4⟩ := row_rel (h.h.obj n _ he)
            obtain ⟨hn, g, m', cap, e4, hlt, rfl⟩ := hs
            simp only at e4
            rw [e3] at e4
            simp only [Value.slice.injEq] at e4
            obtain ⟨rfl, rfl, rfl⟩ := e4
            obtain ⟨_, _, _, h6, _⟩ := h4 _ rfl
            obtain ⟨ecs, h7, h8⟩ := h6 i xs[i] (List.getElem?_eq_getElem hlt)
            rw [castT_rfl, List.getD_eq_getElem?_getD, List.getElem?_eq_getElem hlt] at hy
            have hy2 := unleaf_all hy (rels_take kt.sz (rels_drop off (leaves_rel (C := cx B ρ st.hp w) h7)))
            refine ⟨_, by
              simp only [Instr.loadAt, Instr.sureAddr, Sem.run_bind, Sem.run_pure, Result.andThen_ok]
              exact run_loadVar hd hkn hi (hy2.length.trans hsz.symm) (fun hb => by rw [hy2.length]; exact sz_one (by rw [hagg]; exact hb)) (fun j u hu => by
                rw [List.getElem?_take] at hu
                split at hu
                . rw [List.getElem?_drop] at hu
                  have := h8 (off + j) u hu
                  rw [addr_add_add, Nat.add_assoc]
                  exact this
                . cases hu), ?_⟩
            rw [← hagg]
            exact VRep_of_cells (C := cx B ρ st.hp w) hy2
          . cases hop
        . cases hop
      . cases hop
    . cases hop
  . rename_i n o
    split at hop
    . rename_i tt cs z hob hz
      split at hop
      . rename_i s0 e1
        cases hop
        obtain ⟨hn, b, e2, rfl⟩ := hs
        obtain ⟨b', vs, e3, h1, h2⟩ := h.h.obj n _ hob
        simp only at e2
        rw [e3] at e2
        simp only [Value.pointer.injEq, Option.some.injEq, Addr.mk.injEq, and_true] at e2
        subst e2
        obtain ⟨h3, ⟨z', h4, h5⟩, h6, h7⟩ := ofCells_rel hE e1 (rels_take z (rels_drop o h2))
        obtain ⟨inf, hi, hsz, _⟩ := hE.sz h4
        refine ⟨_, by
          simp only [Instr.loadAt, Instr.sureAddr, Sem.run_bind, Sem.run_pure, Result.andThen_ok]
          exact run_loadVar hd h3 hi (h5.trans hsz.symm) h6 (fun j u hu => by
            rw [List.getElem?_take] at hu
            split at hu
            . rw [List.getElem?_drop] at hu
              rw [addr_add]
              simp only [World.cell?, h1]
              simpa using hu
            . cases hu), h7⟩
      . cases hop
    . cases hop
  . rename_i n
    split at hop
    . rename_i m e k xs e1 hrow
      split at hop
      . rename_i hc
        obtain ⟨hk, hagg, hz⟩ := hc
        cases hop
        have hxm : xs.length = m := ho _ (by simp)
        have hk1 := sz_one hagg
        have hka : (E.d t).isAgg = true := by rw [e1]; rfl
        have hkn : (E.d t).known = true := by rw [e1]; rfl
        rw [e1] at hd
        obtain ⟨inf, hi, hsz, _⟩ := hE.sz hz
        obtain ⟨e', he⟩ := St.row_some hrow
        obtain ⟨inner, h1, h2⟩ := h.h.obj n _ he
        obtain ⟨hn, g, m', cap, e4, rfl, _⟩ := hs
        simp only at e4 h1 h2
        have hlen := h1.form.1
        rw [hk1, Nat.mul_one] at hlen
        rcases h1.form.2 with ⟨h3, _⟩ | ⟨g', cap', cur, e0, fz, h3, h4, _, _, _, _, h5⟩
        . rw [e4] at h3; cases h3
        rw [e4] at h3
        simp only [Value.slice.injEq, Option.some.injEq, Addr.mk.injEq, and_true] at h3
        obtain ⟨rfl, _⟩ := h3
        have hd : (E.d t).ok E.P t := by rw [e1]; exact hd
        refine ⟨_, by
          simp only [Instr.loadAt, Instr.sureAddr, Sem.run_bind, Sem.run_pure, Result.andThen_ok]
          exact run_loadVar hd hkn hi (cs := inner) (by rw [hlen, hsz, hxm]) (fun hb => by rw [hka] at hb; cases hb) (fun j u hu => by
            rw [addr_add, Nat.zero_add]
            simp only [World.cell?, h4]
            rw [← h5, List.getElem?_take] at hu
            split at hu
            . simpa using hu
            . cases hu), ?_⟩
        rw [hka]
        refine ⟨inner, ⟨hxm, repL_ones hlen fun i x hx => ?_⟩, rfl⟩
        have := h2 i x hx
        rwa [hk1, Nat.mul_one] at this
      . cases hop
    . cases hop
  . cases hop
end
end Go.Vc
end
section
namespace Go.Vc
open Go.RowKit
def eqL {α : Type} (f : α → α → Bool) : List α → List α → Bool
  | [], [] => true
  | x :: xs, y :: ys => f x y && eqL f xs ys
  | _, _ => false
def eqD : (k : Kd) → k.T → k.T → Bool
  | .int _, x, y => @decide ((x : Int) = y) (Int.instDecidableEq x y)
  | .bool, x, y => @decide ((x : Bool) = y) (instDecidableEqBool x y)
  | .str, x, y => @decide ((x : List Int) = y) (instDecidableEqList x y)
  | .pair a b, x, y => eqD a x.1 y.1 && eqD b x.2 y.2
  | .unit, _, _ => true
  | .arr _ k, x, y => eqL (eqD k) x y
  | _, _, _ => false
def plainTD : TD → Kd → Bool
  | .int k, .int k' => decide (k' = k)
  | .bool, .bool => true
  | .str, .str => true
  | _, _ => false
def fieldsEq (E : Ty) : List (Nat × Nat) → Kd → Nat → Bool
  | [], .unit, _ => true
  | [(t, o)], k, off => decide (o = off) && plainTD (E.d t) k
  | (t, o) :: l, .pair a b, off => decide (o = off) && plainTD (E.d t) a && fieldsEq E l b (off + 1)
  | _, _, _ => false
section
variable {E : Ty} {w z : World}
theorem plain_eq (hE : E.Ok) {F : Nat → Prop} {t : Nat} {k : Kd} (h : plainTD (E.d t) k = true) {x y : k.T} {c1 c2 : List Value} (h1 : Rep w F k x c1) (h2 : Rep w F k y c2) :
    ∃ a b, c1 = [a] ∧ c2 = [b] ∧ E.P.plainKey t = true ∧ ∀ d, (Op.equalIn (d + 1) t a b).run E.P z = .ok (eqD k x y) z := by
  have hd := hE.d t
  cases hq : E.d t <;> rw [hq] at h hd <;> cases k <;> simp only [plainTD, Bool.false_eq_true] at h
  . have h := of_decide_eq_true h
    subst h
    obtain ⟨rfl, _⟩ := h1
    obtain ⟨rfl, _⟩ := h2
    have hd : E.P.underlying t = some (.int _) := hd
    refine ⟨_, _, rfl, rfl, by simp [Program.plainKey, hd], fun d => ?_⟩
    rw [run_equalIn_int z d t _ _ _ _ hd]
    rfl
  . obtain rfl := h1
    obtain rfl := h2
    have hd : E.P.underlying t = some .bool := hd
    refine ⟨_, _, rfl, rfl, by simp [Program.plainKey, hd], fun d => ?_⟩
    rw [run_equalIn_bool z d t _ _ hd]
    rfl
  . obtain ⟨s1, rfl, rfl, _⟩ := h1
    obtain ⟨s2, rfl, rfl, _⟩ := h2
    have hd : E.P.underlying t = some .string := hd
    refine ⟨_, _, rfl, rfl, by simp [Program.plainKey, hd], fun d => ?_⟩
    rw [run_equalIn_string z d t _ _ hd]
    have e1 : (s1.toList == s2.toList) = decide (bs s1 = bs s2) := by
      rw [Bool.eq_iff_iff]
      simp [bs_inj]
    rw [e1]
    simp only [eqD]
theorem fields_eq (hE : E.Ok) {F : Nat → Prop} (d : Nat) : ∀ (fs : List Field) (k : Kd) (p1 p2 : List Value) {x y : k.T} {c1 c2 : List Value}, (∀ f ∈ fs, f.name ≠ "_") → fieldsEq E (fs.map fun f => (f.type, f.offset)) k p1.length = true → p2.length = p1.length → Rep w F k x c1 → Rep w F k y c2 →
    (Op.eqFields (d + 1) (p1 ++ c1).toArray (p2 ++ c2).toArray fs).run E.P z = .ok (eqD k x y) z
  | [], k, p1, p2, x, y, c1, c2, _, hf, _, h1, h2 => by
    cases k <;> simp only [List.map_nil, fieldsEq, Bool.false_eq_true] at hf
    simp [Op.eqFields, eqD]
  | [f], k, p1, p2, x, y, c1, c2, hn, hf, hl, h1, h2 => by
    simp only [List.map_cons, List.map_nil, fieldsEq, Bool.and_eq_true, decide_eq_true_eq] at hf
    obtain ⟨ho, hk⟩ := hf
    obtain ⟨a, b, rfl, rfl, hp, he⟩ := plain_eq (w := w) (z := z) hE hk h1 h2
    have q1 := run_part_plain z (xs := (p1 ++ [a]).toArray) (off := f.offset) (v := a) hp (by simp [ho])
    have q2 := run_part_plain z (xs := (p2 ++ [b]).toArray) (off := f.offset) (v := b) hp (by simp [ho, ← hl])
    simp only [Op.eqFields, hn f (by simp), ne_eq, not_false_eq_true, if_true, Sem.run_bind, q1, q2, he, Result.andThen_ok]
    cases eqD k x y <;> simp
  | f :: g :: l, k, p1, p2, x, y, c1, c2, hn, hf, hl, h1, h2 => by
    cases k <;> simp only [List.map_cons, fieldsEq, Bool.false_eq_true, Bool.and_eq_true, decide_eq_true_eq] at hf
    rename_i ka kb
    obtain ⟨⟨ho, hk⟩, hr⟩ := hf
    obtain ⟨x1, x2⟩ := x
    obtain ⟨y1, y2⟩ := y
    obtain ⟨d1, d2, rfl, h11, h12⟩ := h1
    obtain ⟨e1, e2, rfl, h21, h22⟩ := h2
    obtain ⟨a, b, rfl, rfl, hp, he⟩ := plain_eq (w := w) (z := z) hE hk h11 h21
    have q1 := run_part_plain z (xs := (p1 ++ ([a] ++ d2)).toArray) (off := f.offset) (v := a) hp (by simp [ho])
    have q2 := run_part_plain z (xs := (p2 ++ ([b] ++ e2)).toArray) (off := f.offset) (v := b) hp (by simp [ho, ← hl])
    have ih := fields_eq hE d (g :: l) kb (p1 ++ [a]) (p2 ++ [b]) (fun f hf => hn f (by simp [hf])) (by simpa using hr) (by simp [hl]) h12 h22
    rw [List.append_assoc, List.append_assoc] at ih
    rw [Op.eqFields]
    simp only [hn f (by simp), ne_eq, not_false_eq_true, if_true, Sem.run_bind, q1, q2, he, Result.andThen_ok]
    have ih : (Op.eqFields (d + 1) (p1 ++ a :: d2).toArray (p2 ++ b :: e2).toArray (g :: l)).run E.P z = .ok (eqD kb x2 y2) z := ih
    cases hq : eqD ka x1 y1 <;> simp [eqD, hq]
    exact ih
theorem items_eq (hE : E.Ok) {F : Nat → Prop} (d : Nat) {t : Nat} {k : Kd} (hk : plainTD (E.d t) k = true) : ∀ (xs ys : List k.T) (p1 p2 c1 c2 : List Value), xs.length = ys.length → p2.length = p1.length → RepL (Rep w F k) xs c1 → RepL (Rep w F k) ys c2 →
    (Op.eqItems (d + 1) t 1 (p1 ++ c1).toArray (p2 ++ c2).toArray (List.range' p1.length xs.length)).run E.P z = .ok (eqL (eqD k) xs ys) z
  | [], [], p1, p2, c1, c2, _, _, _, _ => by simp [Op.eqItems, eqL]
  | [], _ :: _, _, _, _, _, h, _, _, _ => by simp at h
  | _ :: _, [], _, _, _, _, h, _, _, _ => by simp at h
  | x :: xs, y :: ys, p1, p2, c1, c2, hl, hp, h1, h2 => by
    obtain ⟨d1, d2, rfl, h11, h12⟩ := h1
    obtain ⟨e1, e2, rfl, h21, h22⟩ := h2
    obtain ⟨a, b, rfl, rfl, hq, he⟩ := plain_eq (w := w) (z := z) hE hk h11 h21
    have q1 := run_part_plain z (xs := (p1 ++ ([a] ++ d2)).toArray) (off := p1.length * 1) (v := a) hq (by simp)
    have q2 := run_part_plain z (xs := (p2 ++ ([b] ++ e2)).toArray) (off := p1.length * 1) (v := b) hq (by simp [← hp])
    have ih := items_eq hE d hk xs ys (p1 ++ [a]) (p2 ++ [b]) d2 e2 (by simpa using hl) (by simp [hp]) h12 h22
    rw [List.append_assoc, List.append_assoc, List.length_append, List.length_singleton] at ih
    rw [List.length_cons, List.range'_succ, Op.eqItems]
    simp only [Sem.run_bind, q1, q2, he, Result.andThen_ok]
    cases hb : eqD k x y <;> simp [eqL, hb]
    simpa using ih
def eqAll (E : Ty) (ty : Nat) (k : Kd) : Bool :=
  match E.d ty with
  | .st l => fieldsEq E l k 0 && k.isAgg && (E.P.fieldsOf ty).toList.all (fun f => f.name != "_") && !(E.P.stoodInHeld ty) && !(E.P.eqGuardType E.P.depth ty)
  | .arr m e => match k with
    | .arr n k' => decide (n = m) && plainTD (E.d e) k' && decide (E.sz e = some 1) && !(E.P.eqGuardType E.P.depth ty)
    | _ => false
  | _ => false
theorem eqAll_sound (hE : E.Ok) {F : Nat → Prop} {ty : Nat} {k : Kd} (h : eqAll E ty k = true) {x y : k.T} {u v : Value} (h1 : VRep w F k x v) (h2 : VRep w F k y u) (a b : Operand) :
    (do eqGuard .eql ty a b v u; binOp .eql ty v u).run E.P z = .ok (.bool (eqD k x y)) z ∧ (do eqGuard .neq ty a b v u; binOp .neq ty v u).run E.P z = .ok (.bool (!eqD k x y)) z := by
  unfold eqAll at h
  split at h
  . rename_i l hl
    simp only [Bool.and_eq_true, Bool.not_eq_true', List.all_eq_true, bne_iff_ne] at h
    obtain ⟨⟨⟨⟨h3, h4⟩, h5⟩, h6⟩, h7⟩ := h
    have hd := hE.d ty
    rw [hl] at hd
    obtain ⟨hd, he⟩ := hd
    obtain ⟨c1, r1, e1⟩ := h1
    obtain ⟨c2, r2, e2⟩ := h2
    rw [if_pos h4] at e1 e2
    subst e1 e2
    have hfs : E.P.underlying ty = some (.struct (E.P.fieldsOf ty)) := by
      unfold Program.fieldsOf
      rw [hd]
    have hfl : (E.P.fieldsOf ty).toList.map (fun f => (f.type, f.offset)) = l := by
      unfold Program.fieldsOf
      rw [hd]
      exact he
    have hf := run_equalIn_struct z 9999 ty c1.toArray c2.toArray hfs h6
    have hg := fields_eq hE (w := w) (z := z) 9998 (E.P.fieldsOf ty).toList k [] [] h5 (by rw [hfl]; exact h3) rfl r1 r2
    simp only [List.nil_append] at hg
    have hf' : (Op.equalIn 10000 ty (.agg c1.toArray) (.agg c2.toArray)).run E.P z = .ok (eqD k x y) z := hf.trans hg
    clear hf hg
    constructor
    . rw [Sem.run_bind, run_eqGuard_agg z _ ty a b _ _ h7, Result.andThen_ok, run_eql_struct, hf']
      rfl
    . rw [Sem.run_bind, run_eqGuard_agg z _ ty a b _ _ h7, Result.andThen_ok, run_neq_struct, hf']
      rfl
  . rename_i m e hl
    split at h
    . rename_i n k'
      simp only [Bool.and_eq_true, Bool.not_eq_true', decide_eq_true_eq] at h
      obtain ⟨⟨⟨rfl, h4⟩, h5⟩, h7⟩ := h
      have hd := hE.d ty
      rw [hl] at hd
      have hd : E.P.underlying ty = some (.array n e) := hd
      obtain ⟨inf, hi, hsz, _⟩ := hE.sz h5
      obtain ⟨c1, ⟨r1, s1⟩, e1⟩ := h1
      obtain ⟨c2, ⟨r2, s2⟩, e2⟩ := h2
      rw [if_pos (show (Kd.arr n k').isAgg = true from rfl)] at e1 e2
      subst e1 e2
      have hc : E.P.cellsOf e = 1 := by simp [Program.cellsOf, hi, hsz]
      have hf := run_equalIn_array z 9999 c1.toArray c2.toArray hd hi
      have hg := items_eq hE (w := w) (z := z) 9998 h4 x y [] [] c1 c2 (by rw [r1, r2]) rfl s1 s2
      rw [hc, List.range_eq_range', ← r1] at hf
      have hf' : (Op.equalIn 10000 ty (.agg c1.toArray) (.agg c2.toArray)).run E.P z = .ok (eqD (.arr n k') x y) z := hf.trans hg
      clear hf hg
      constructor
      . rw [Sem.run_bind, run_eqGuard_agg z _ ty a b _ _ h7, Result.andThen_ok, run_eql_struct, hf']
        rfl
      . rw [Sem.run_bind, run_eqGuard_agg z _ ty a b _ _ h7, Result.andThen_ok, run_neq_struct, hf']
        rfl
    . cases h
  . cases h
end
end Go.Vc
end
