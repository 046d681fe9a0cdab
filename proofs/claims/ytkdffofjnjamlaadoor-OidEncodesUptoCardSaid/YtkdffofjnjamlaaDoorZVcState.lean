/- Symbolic values and states, and what they say of a frame and a world. -/
import Derived.Test.YtkdffofjnjamlaaDoorZVcBase
set_option linter.unusedVariables false
set_option linter.unusedSimpArgs false
namespace Go.Vc
open Go.RowKit

/-- Symbolic values. -/
inductive SV where
  | yld
  | aar (k : Kd) (xs : List k.T)
  | dat (k : Kd) (x : k.T)
  | cst (v : Value)
  | own (n : Nat)
  | sub (n : Nat) (k : Kd) (off len : Nat)
  | ptr (n : Nat) (o : Nat)
  | rptr (n : Nat)
  | adr (k : Kd) (x : k.T)
  | oel (n : Nat) (k : Kd) (i off : Nat)
  | fn (f : FuncId) (cap : List SV)
  | tup (l : List SV)
  | agg (l : List SV)
  | ifc (t : TypeId) (s : SV)
  | gd (p : Bool) (s : SV)
  | junk

/-- Objects that the walk has made (or was given): rows and variables. -/
inductive Ob where
  | row (e : TypeId) (k : Kd) (xs : List k.T)
  | var (t : TypeId) (cs : List SV)
  | siter (l : List Int) (pos : Nat)
  | dfr

abbrev Slots := List (Nat × SV)

/-- A deferred call: the mark of a loop over a function, or a function. -/
inductive DE where
  | mark (n : Nat)
  | fn (f : FuncId) (cap : List SV)

/-- How a round of a loop over a function may leave the loop; how the loop stands. -/
inductive Jump where
  | ret | exit (id : Nat)
inductive LS where
  | no | ready | busy | done (j : Jump)

/-- What a package's variable holds. -/
inductive GV where
  | arr (k : Kd) (xs : List k.T)
  | one (k : Kd) (x : k.T)
  /-- Some integer. -/
  | num (k : IntKind)
  /-- Just these cells. -/
  | raw (vs : List Value)
abbrev Gl := List (Nat × GV)

structure St where
  n : Nat
  sl : Slots
  kn : List (Nat × Bool) := []
  stk : List (Slots × List DE) := []
  hp : List (Option Ob) := []
  df : List DE := []
  ls : LS := .no
  gl : Gl := []

/-- What a symbolic value is read in. -/
structure Cx where
  w : World
  F : Nat → Prop
  ρ : Nat → Value
  N : Nat
  lp : Nat := 0

def blk : Value → Option Nat
  | .slice (some a) _ _ => some a.block
  | .pointer (some a) => some a.block
  | _ => none

/-- A value in a slot represents data. -/
def VRep (w : World) (F : Nat → Prop) (k : Kd) (x : k.T) (v : Value) : Prop :=
  ∃ cs, Rep w F k x cs ∧ (if k.isAgg then v = .agg cs.toArray else cs = [v])

/-- A mark on a row's element type: the block bears a mark behind its cells. -/
def BIG : Nat := 1099511627776
/-- As World.ownsRow; behind the block's cells a mark. -/
def ownsRowG (w : World) (e sz : Nat) (v : Value) (n : Nat) (xs : List Value) : Prop :=
  xs.length = n * sz ∧ ∃ (g cap : Nat) (cur : Array Value) (fz : Nat × Nat), v = .slice (some ⟨g, 0, none⟩) n cap ∧ w.heap[g]? = some (.cells cur e fz) ∧ cur.size ≤ fz.1 ∧ n ≤ cap ∧ cap ≤ maxLen ∧ cur.size = cap * sz ∧ cur.toList.take (n * sz) = xs
/-- A row of the walk's own in the world. -/
def RowOk (w : World) (e sz : Nat) (v : Value) (n : Nat) (xs : List Value) : Prop := w.ownsRow 0 e sz v n xs ∨ (BIG ≤ e ∧ ownsRowG w (e - BIG) sz v n xs)

theorem RowOk.low {w : World} {e sz : Nat} {v : Value} {n : Nat} {xs : List Value} (h : RowOk w e sz v n xs) (he : e < BIG) : w.ownsRow 0 e sz v n xs := h.resolve_right (fun hc => by omega)
theorem RowOk.form {w : World} {e sz : Nat} {v : Value} {n : Nat} {xs : List Value} (h : RowOk w e sz v n xs) : xs.length = n * sz ∧ ((v = .slice none 0 0 ∧ n = 0) ∨
    ∃ (g cap : Nat) (cur : Array Value) (e0 : Nat) (fz : Nat × Nat), v = .slice (some ⟨g, 0, none⟩) n cap ∧ w.heap[g]? = some (.cells cur e0 fz) ∧ (fz = (0, 0) ∨ cur.size ≤ fz.1) ∧ n ≤ cap ∧ cap ≤ maxLen ∧ cur.size = cap * sz ∧ cur.toList.take (n * sz) = xs) := by
  rcases h with ⟨h1, h2⟩ | ⟨_, h1, g, cap, cur, fz, h2, h3, h4, h5⟩
  · refine ⟨h1, h2.imp id ?_⟩
    rintro ⟨g, cap, cur, h3, _, h4, h5⟩
    exact ⟨g, cap, cur, e, (0, 0), h3, h4, .inl rfl, h5⟩
  · exact ⟨h1, .inr ⟨g, cap, cur, _, fz, h2, h3, .inr h4, h5⟩⟩
theorem RowOk.mv {w w' : World} {e sz : Nat} {v : Value} {n : Nat} {xs : List Value} (h : RowOk w e sz v n xs) (hb : ∀ g n c, v = .slice (some ⟨g, 0, none⟩) n c → w'.heap[g]? = w.heap[g]?) : RowOk w' e sz v n xs := by
  rcases h with ⟨h1, h2⟩ | ⟨hB, h1, g, cap, cur, fz, h2, h3, h4⟩
  · refine .inl ⟨h1, h2.imp id ?_⟩
    rintro ⟨g, cap, cur, h3, h6, h4, h5⟩
    exact ⟨g, cap, cur, h3, h6, by rw [hb g _ _ h3]; exact h4, h5⟩
  · exact .inr ⟨hB, h1, g, cap, cur, fz, h2, by rw [hb g _ _ h2]; exact h3, h4⟩

mutual
def SV.rel (C : Cx) : SV → Value → Prop
  | .yld, v => v = .func (.yield C.lp) #[] #[]
  | .aar k xs, v => ∃ ad, v = .pointer (some ad) ∧ ad.block < C.w.heap.size ∧ ¬ C.F ad.block ∧ Els C.w (Rep C.w C.F k) k.sz ad xs
  | .dat k x, v => VRep C.w C.F k x v
  | .cst c, v => v = c
  | .own n, v => n < C.N ∧ v = C.ρ n ∧ ∃ A m c, v = .slice A m c
  | .sub n k off len, v => n < C.N ∧ ∃ A m cap A' c, C.ρ n = .slice A m cap ∧ v = .slice A' len c ∧ off + len ≤ m ∧ m - off ≤ c ∧ c = cap - off ∧ (A' = A.map (·.add (off * k.sz)) ∨ (c = 0 ∧ 0 < off))
  | .ptr n o, v => n < C.N ∧ ∃ b, C.ρ n = .pointer (some ⟨b, 0, none⟩) ∧ v = .pointer (some ⟨b, o, none⟩)
  | .rptr n, v => n < C.N ∧ ∃ g m cap, C.ρ n = .slice (some ⟨g, 0, none⟩) m cap ∧ v = .pointer (some ⟨g, 0, none⟩) ∧ cap = m
  | .adr k x, v => ∃ ad cs, v = .pointer (some ad) ∧ Rep C.w C.F k x cs ∧ ad.block < C.w.heap.size ∧ ¬ C.F ad.block ∧ ∀ (j : Nat) (u : Value), cs[j]? = some u → C.w.cell? (ad.add j) = some u
  | .oel n k i off, v => n < C.N ∧ ∃ g m cap, C.ρ n = .slice (some ⟨g, 0, none⟩) m cap ∧ i < m ∧ v = .pointer (some ((⟨g, 0, none⟩ : Addr).add (i * k.sz + off)))
  | .fn f cap, v => ∃ vs, v = .func (.func f) #[] vs.toArray ∧ SV.rels C cap vs
  | .tup l, v => ∃ vs, v = .tuple vs.toArray ∧ SV.rels C l vs
  | .agg l, v => ∃ vs, v = .agg vs.toArray ∧ SV.rels C l vs
  | .ifc t s, v => ∃ u, v = .iface t u ∧ SV.rel C s u
  | .gd p s, v => (p = true → SV.rel C s v) ∧ (p = false → v = undef)
  | .junk, _ => True
def SV.rels (C : Cx) : List SV → List Value → Prop
  | [], vs => vs = []
  | s :: l, vs => ∃ v r, vs = v :: r ∧ SV.rel C s v ∧ SV.rels C l r
end

def Ob.rel (C : Cx) : Ob → Value → Prop
  | .row e k xs, h => ∃ inner, RowOk C.w e k.sz h xs.length inner ∧ ∀ i x, xs[i]? = some x → Rep C.w C.F k x ((inner.drop (i * k.sz)).take k.sz)
  | .var t cs, h => ∃ b vs, h = .pointer (some ⟨b, 0, none⟩) ∧ C.w.heap[b]? = some (.cells vs.toArray t (0, 0)) ∧ SV.rels C cs vs
  | .siter l pos, h => ∃ b s, h = .pointer (some ⟨b, 0, none⟩) ∧ C.w.heap[b]? = some (.stringIter s pos) ∧ bs s = l ∧ s.size ≤ 9223372036854775807
  | .dfr, h => ∃ b, h = .pointer (some ⟨b, 0, none⟩) ∧ C.w.heap[b]? = some (.deferred (some []))

/-- Deferred calls. -/
def DRel (C : Cx) : List DE → List Deferred → Prop
  | [], ds => ds = []
  | .mark n :: l, ds => ∃ b r, ds = { target := .collected b, args := #[] } :: r ∧ n < C.N ∧ C.ρ n = .pointer (some ⟨b, 0, none⟩) ∧ DRel C l r
  | .fn f cap :: l, ds => ∃ vs r, ds = { target := .fn (.func f) vs.toArray, args := #[] } :: r ∧ SV.rels C cap vs ∧ DRel C l r

/-- One reading goes over into another. -/
structure Cx.le (C C' : Cx) : Prop where
  size : C.w.heap.size ≤ C'.w.heap.size
  same : ∀ b, b < C.w.heap.size → ¬ C.F b → C'.w.heap[b]? = C.w.heap[b]?
  F : ∀ b, b < C.w.heap.size → C'.F b → C.F b
  N : C.N ≤ C'.N
  ρ : ∀ n, n < C.N → C'.ρ n = C.ρ n
  lp : C'.lp = C.lp

theorem Cx.le.refl (C : Cx) : C.le C := ⟨Nat.le_refl _, fun _ _ _ => rfl, fun _ _ h => h, Nat.le_refl _, fun _ _ => rfl, rfl⟩

theorem VRep.le {C C' : Cx} (h : C.le C') {k : Kd} {x : k.T} {v : Value} (hv : VRep C.w C.F k x v) : VRep C'.w C'.F k x v := by
  obtain ⟨cs, hr, hc⟩ := hv
  exact ⟨cs, hr.step h.size h.same h.F, hc⟩

mutual
theorem SV.rel.le {C C' : Cx} (h : C.le C') : ∀ {s : SV} {v : Value}, s.rel C v → s.rel C' v
  | .yld, v, hr => by
    have hr : v = _ := hr
    show v = _
    rw [h.lp]; exact hr
  | .aar k xs, v, hr => by
    obtain ⟨ad, e, h1, h2, h3⟩ := hr
    refine ⟨ad, e, Nat.lt_of_lt_of_le h1 h.size, fun hc => h2 (h.F _ h1 hc), h3.imp (fun x _ cs hr => Rep.step h.size h.same h.F hr) fun j u hu => ?_⟩
    rw [World.cell?_of_block (w := C.w) (by rw [add_block]; exact h.same _ h1 h2)]; exact hu
  | .dat k x, v, hr => VRep.le h hr
  | .cst c, v, hr => hr
  | .own n, v, hr => ⟨Nat.lt_of_lt_of_le hr.1 h.N, by rw [h.ρ n hr.1]; exact hr.2⟩
  | .sub n k off len, v, hr => ⟨Nat.lt_of_lt_of_le hr.1 h.N, by rw [h.ρ n hr.1]; exact hr.2⟩
  | .ptr n o, v, hr => ⟨Nat.lt_of_lt_of_le hr.1 h.N, by rw [h.ρ n hr.1]; exact hr.2⟩
  | .rptr n, v, hr => ⟨Nat.lt_of_lt_of_le hr.1 h.N, by rw [h.ρ n hr.1]; exact hr.2⟩
  | .adr k x, v, hr => by
    obtain ⟨ad, cs, e, h1, h2, h3, h4⟩ := hr
    exact ⟨ad, cs, e, h1.step h.size h.same h.F, Nat.lt_of_lt_of_le h2 h.size, fun hc => h3 (h.F _ h2 hc), fun j u hu => by
      rw [World.cell?_of_block (w := C.w) (by rw [add_block]; exact h.same _ h2 h3)]; exact h4 j u hu⟩
  | .oel n k i off, v, hr => ⟨Nat.lt_of_lt_of_le hr.1 h.N, by rw [h.ρ n hr.1]; exact hr.2⟩
  | .fn f cap, v, hr => by obtain ⟨vs, e, hs⟩ := hr; exact ⟨vs, e, SV.rels.le h hs⟩
  | .tup l, v, hr => by obtain ⟨vs, e, hs⟩ := hr; exact ⟨vs, e, SV.rels.le h hs⟩
  | .agg l, v, hr => by obtain ⟨vs, e, hs⟩ := hr; exact ⟨vs, e, SV.rels.le h hs⟩
  | .ifc t s, v, hr => by obtain ⟨u, e, hs⟩ := hr; exact ⟨u, e, SV.rel.le h hs⟩
  | .gd p s, v, hr => ⟨fun hp => SV.rel.le h (hr.1 hp), hr.2⟩
  | .junk, _, _ => trivial
theorem SV.rels.le {C C' : Cx} (h : C.le C') : ∀ {l : List SV} {vs : List Value}, SV.rels C l vs → SV.rels C' l vs
  | [], _, hr => hr
  | s :: l, vs, hr => by
    obtain ⟨v, r, e, h1, h2⟩ := hr
    exact ⟨v, r, e, SV.rel.le h h1, SV.rels.le h h2⟩
end

theorem Ob.rel.le {C C' : Cx} (h : C.le C') {o : Ob} {v : Value} (hr : o.rel C v) (hb : ∀ b, blk v = some b → C'.w.heap[b]? = C.w.heap[b]?) : o.rel C' v := by
  cases o with
  | row e k xs =>
    obtain ⟨inner, h1, h2⟩ := hr
    exact ⟨inner, h1.mv fun g n c e => hb g (by rw [e]; rfl), fun i x hx => (h2 i x hx).step h.size h.same h.F⟩
  | var t cs =>
    obtain ⟨b, vs, e, h1, h2⟩ := hr
    exact ⟨b, vs, e, by rw [hb b (by rw [e]; rfl)]; exact h1, SV.rels.le h h2⟩
  | siter l pos =>
    obtain ⟨b, s, e, h1, h2⟩ := hr
    exact ⟨b, s, e, by rw [hb b (by rw [e]; rfl)]; exact h1, h2⟩
  | dfr =>
    obtain ⟨b, e, h1⟩ := hr
    exact ⟨b, e, by rw [hb b (by rw [e]; rfl)]; exact h1⟩

theorem DRel.le {C C' : Cx} (h : C.le C') : ∀ {l : List DE} {ds : List Deferred}, DRel C l ds → DRel C' l ds
  | [], _, hr => hr
  | .mark n :: l, _, hr => by
    obtain ⟨b, r, e, h1, h2, h3⟩ := hr
    exact ⟨b, r, e, Nat.lt_of_lt_of_le h1 h.N, by rw [h.ρ n h1]; exact h2, DRel.le h h3⟩
  | .fn f cap :: l, _, hr => by
    obtain ⟨vs, r, e, h1, h2⟩ := hr
    exact ⟨vs, r, e, SV.rels.le h h1, DRel.le h h2⟩

/-- A live object's block lies in the heap. -/
theorem Ob.rel.lt {C : Cx} {o : Ob} {v : Value} (hr : o.rel C v) : ∀ b, blk v = some b → b < C.w.heap.size := by
  intro b hb
  cases o with
  | row e k xs =>
    obtain ⟨inner, hh, _⟩ := hr
    rcases hh.form.2 with ⟨rfl, _⟩ | ⟨g, cap, cur, e0, fz, rfl, e3, _⟩
    · cases hb
    · cases hb; exact (Array.getElem?_eq_some_iff.1 e3).1
  | var t cs =>
    obtain ⟨b', vs, rfl, h1, _⟩ := hr
    cases hb; exact (Array.getElem?_eq_some_iff.1 h1).1
  | siter l pos =>
    obtain ⟨b', s, rfl, h1, _⟩ := hr
    cases hb; exact (Array.getElem?_eq_some_iff.1 h1).1
  | dfr =>
    obtain ⟨b', rfl, h1⟩ := hr
    cases hb; exact (Array.getElem?_eq_some_iff.1 h1).1

/-- Nothing below has turned but the blocks of S. -/
structure Kept (S : Nat → Prop) (w w' : World) : Prop where
  os : w'.os = w.os
  tape : w'.tape = w.tape
  output : w'.output = w.output
  size : w.heap.size ≤ w'.heap.size
  block : ∀ b, b < w.heap.size → ¬ S b → w'.heap[b]? = w.heap[b]?

theorem Kept.refl (S : Nat → Prop) (w : World) : Kept S w w := ⟨rfl, rfl, rfl, Nat.le_refl _, fun _ _ _ => rfl⟩
theorem Kept.trans {S S' : Nat → Prop} {a b c : World} (h : Kept S a b) (k : Kept S' b c) (hs : ∀ x, x < a.heap.size → S' x → S x) : Kept S a c :=
  ⟨k.os.trans h.os, k.tape.trans h.tape, k.output.trans h.output, Nat.le_trans h.size k.size, fun i hi hn => (k.block i (Nat.lt_of_lt_of_le hi h.size) (fun hc => hn (hs i hi hc))).trans (h.block i hi hn)⟩
theorem Kept.below {w w' : World} (h : Kept (fun _ => False) w w') : Below w.heap.size w w' := ⟨h.os, h.tape, h.output, h.size, fun b hb => h.block b hb id⟩

/-- What a package's variable holds, in a world. -/
def GV.ok (w : World) (F : Nat → Prop) (g : Nat) : GV → Prop
  | .arr k xs => Els w (Rep w F k) k.sz ⟨g, 0, none⟩ xs
  | .one k x => ∃ cs, Rep w F k x cs ∧ ∀ (j : Nat) (u : Value), cs[j]? = some u → w.cell? ((⟨g, 0, none⟩ : Addr).add j) = some u
  | .num k => ∃ m : Int, w.cell? ⟨g, 0, none⟩ = some (.int k m)
  | .raw vs => ∃ t fr, w.heap[g]? = some (.cells vs.toArray t fr)
def GlOk (gl : Gl) (w : World) (F : Nat → Prop) : Prop := ∀ g v, gl.lookup g = some v → g < w.heap.size ∧ ¬ F g ∧ v.ok w F g

theorem GV.ok_step {w w' : World} {F F' : Nat → Prop} {g : Nat} {v : GV} (hs : w.heap.size ≤ w'.heap.size) (hw : ∀ b, b < w.heap.size → ¬ F b → w'.heap[b]? = w.heap[b]?) (hF : ∀ b, b < w.heap.size → F' b → F b)
    (hg : g < w.heap.size) (hn : ¬ F g) (h : v.ok w F g) : v.ok w' F' g := by
  have cell : ∀ (j : Nat) (u : Value), w.cell? ((⟨g, 0, none⟩ : Addr).add j) = some u → w'.cell? ((⟨g, 0, none⟩ : Addr).add j) = some u := fun j u hu => by
    rw [World.cell?_of_block (w := w) (by rw [add_block]; exact hw _ hg hn)]; exact hu
  cases v with
  | arr k xs => exact Els.imp h (fun x _ cs hr => Rep.step hs hw hF hr) cell
  | one k x =>
    obtain ⟨cs, h1, h2⟩ := h
    exact ⟨cs, Rep.step hs hw hF h1, fun j u hu => cell j u (h2 j u hu)⟩
  | num k =>
    obtain ⟨m, hm⟩ := h
    refine ⟨m, ?_⟩
    have := cell 0 _ (by simpa [Addr.add] using hm)
    simpa [Addr.add] using this
  | raw vs =>
    obtain ⟨t, fr, h1⟩ := h
    exact ⟨t, fr, by rw [hw _ hg hn]; exact h1⟩
theorem GlOk.step {gl : Gl} {w w' : World} {F F' : Nat → Prop} (hs : w.heap.size ≤ w'.heap.size) (hw : ∀ b, b < w.heap.size → ¬ F b → w'.heap[b]? = w.heap[b]?) (hF : ∀ b, b < w.heap.size → F' b → F b) (h : GlOk gl w F) : GlOk gl w' F' :=
  fun g v hv => by
    obtain ⟨h1, h2, h3⟩ := h g v hv
    exact ⟨Nat.lt_of_lt_of_le h1 hs, fun hc => h2 (hF g h1 hc), GV.ok_step hs hw hF h1 h2 h3⟩

/-- What a walk starts from. -/
structure Base where
  alt : LS → World
  S : Nat → Prop
  Fb : Nat → Prop
  lp : Nat
  gl : Gl
  gok : ∀ ls, GlOk gl (alt ls) (fun b => Fb b ∨ S b)

def live (hp : List (Option Ob)) (n : Nat) : Prop := ∃ o, hp[n]? = some (some o)

def Forb (B : Base) (ρ : Nat → Value) (hp : List (Option Ob)) (b : Nat) : Prop := B.Fb b ∨ ∃ n, live hp n ∧ blk (ρ n) = some b

@[reducible] def cx (B : Base) (ρ : Nat → Value) (hp : List (Option Ob)) (w : World) : Cx := ⟨w, Forb B ρ hp, ρ, hp.length, B.lp⟩

structure HRel (B : Base) (w0 : World) (ρ : Nat → Value) (hp : List (Option Ob)) (w : World) : Prop where
  kept : Kept B.S w0 w
  obj : ∀ (n : Nat) (o : Ob), hp[n]? = some (some o) → o.rel (cx B ρ hp w) (ρ n)
  sep : ∀ n m b, live hp n → live hp m → blk (ρ n) = some b → blk (ρ m) = some b → n = m
  own : ∀ n b, live hp n → blk (ρ n) = some b → (w0.heap.size ≤ b ∨ B.S b) ∧ ¬ B.Fb b
  fb : ∀ b, B.Fb b → b < w0.heap.size ∧ ¬ B.S b

/-- Slots and a frame. -/
def SlotsRel (C : Cx) (n : Nat) (sl : Slots) (tmps : Array Value) : Prop :=
  tmps.size = n ∧ ∀ i s, sl.lookup i = some s → i < n ∧ s.rel C (tmps.getD i undef)

def StkRel (C : Cx) : List (Slots × List DE) → List Act → Prop
  | [], fs => fs = []
  | sl :: l, fs => ∃ t r, fs = t :: r ∧ SlotsRel C t.tmps.size sl.1 t.tmps ∧ DRel C sl.2 t.defers ∧ StkRel C l r

theorem SlotsRel.le {C C' : Cx} (h : C.le C') {n : Nat} {sl : Slots} {t : Array Value} (hr : SlotsRel C n sl t) : SlotsRel C' n sl t :=
  ⟨hr.1, fun i s hs => ⟨(hr.2 i s hs).1, (hr.2 i s hs).2.le h⟩⟩

theorem StkRel.le {C C' : Cx} (h : C.le C') : ∀ {l : List (Slots × List DE)} {fs : List Act}, StkRel C l fs → StkRel C' l fs
  | [], _, hr => hr
  | _ :: _, _, hr => by
    obtain ⟨t, r, e, h1, h2, h3⟩ := hr
    exact ⟨t, r, e, h1.le h, h2.le h, StkRel.le h h3⟩

structure StRel (B : Base) (ρ : Nat → Value) (st : St) (a : Act) (fs : List Act) (w : World) : Prop where
  h : HRel B (B.alt st.ls) ρ st.hp w
  s : SlotsRel (cx B ρ st.hp w) st.n st.sl a.tmps
  kn : ∀ t b, (t, b) ∈ st.kn → t < st.n ∧ a.tmps.getD t undef = .bool b
  k : StkRel (cx B ρ st.hp w) st.stk fs
  d : DRel (cx B ρ st.hp w) st.df a.defers
  g : st.gl = B.gl

/-- The package's variables, in a state. -/
theorem StRel.gls {B : Base} {ρ : Nat → Value} {st : St} {a : Act} {fs : List Act} {w : World} (h : StRel B ρ st a fs w) : GlOk st.gl w (Forb B ρ st.hp) := by
  rw [h.g]
  refine (B.gok st.ls).step h.h.kept.size (fun b hb hn => h.h.kept.block b hb (fun hc => hn (.inr hc))) (fun b hb hF => ?_)
  rcases hF with hF | ⟨n, hl, he⟩
  · exact .inl hF
  · exact .inr ((h.h.own n b hl he).1.resolve_left (by omega))

/-- A slot is set. -/
def St.set (st : St) (d : Option Nat) (s : SV) : St :=
  match d with
  | some d => { st with sl := (d, s) :: st.sl, kn := st.kn.filter (fun p => !Nat.beq p.1 d) }
  | none => st

theorem lookup_cons {d i : Nat} {s : SV} {sl : Slots} : List.lookup i ((d, s) :: sl) = if i = d then some s else sl.lookup i := by
  by_cases h : i = d
  · simp [h, List.lookup]
  · have : (i == d) = false := by simp [h]
    simp [List.lookup, this, h]

theorem put_same (a : Act) (d : Nat) (v : Value) (h : d < a.tmps.size) : (a.put (some d) v).tmps.getD d undef = v := by
  simp [Act.put, Array.getD_eq_getD_getElem?, h]
theorem put_other (a : Act) (d j : Nat) (v : Value) (h : j ≠ d) : (a.put (some d) v).tmps.getD j undef = a.tmps.getD j undef := by
  simp [Act.put, Array.getD_eq_getD_getElem?, Ne.symm h]

theorem StRel.put {B : Base} {ρ : Nat → Value} {st : St} {a : Act} {fs : List Act} {w : World} (h : StRel B ρ st a fs w) {d : Option Nat} {s : SV} {v : Value}
    (hd : ∀ i, d = some i → i < st.n) (hv : s.rel (cx B ρ st.hp w) v) : StRel B ρ (st.set d s) (a.put d v) fs w := by
  cases d with
  | none => exact h
  | some i =>
    have hi := hd i rfl
    obtain ⟨h1, h2, hk, h3, h4, h5⟩ := h
    have hs : i < a.tmps.size := by rw [h2.1]; exact hi
    refine ⟨h1, ⟨by simp [Act.put, h2.1, St.set], fun j s' hj => ?_⟩, fun t b hb => ?_, h3, h4, h5⟩
    · simp only [St.set] at hj
      rw [lookup_cons] at hj
      by_cases e : j = i
      · rw [if_pos e] at hj
        cases hj
        subst e
        exact ⟨hi, by rw [put_same a j v hs]; exact hv⟩
      · rw [if_neg e] at hj
        obtain ⟨hj1, hj2⟩ := h2.2 j s' hj
        exact ⟨hj1, by rw [put_other a i j v e]; exact hj2⟩
    · simp only [St.set, List.mem_filter, Bool.not_eq_true'] at hb
      have hne : t ≠ i := fun e => by rw [e, Nat.beq_refl] at hb; exact absurd hb.2 (by simp)
      obtain ⟨hk1, hk2⟩ := hk t b hb.1
      exact ⟨hk1, by rw [put_other a i t v hne]; exact hk2⟩

/-- What a bool slot holds is known from here on. -/
def St.know (st : St) (t : Nat) (b : Bool) : St := { st with kn := (t, b) :: st.kn, sl := (t, .cst (.bool b)) :: st.sl }
theorem StRel.know {B : Base} {ρ : Nat → Value} {st : St} {a : Act} {fs : List Act} {w : World} (h : StRel B ρ st a fs w) {t : Nat} {b : Bool}
    (ht : t < st.n) (hv : a.tmps.getD t undef = .bool b) : StRel B ρ (st.know t b) a fs w :=
  ⟨h.h, ⟨h.s.1, fun i s hs => by
    simp only [St.know] at hs
    rw [lookup_cons] at hs
    split at hs
    · rename_i e; cases hs; subst e; exact ⟨ht, hv⟩
    · exact h.s.2 i s hs⟩, fun t' b' hm => by
    rcases List.mem_cons.1 hm with e | hm
    · cases e; exact ⟨ht, hv⟩
    · exact h.kn t' b' hm, h.k, h.d, h.g⟩
end Go.Vc
