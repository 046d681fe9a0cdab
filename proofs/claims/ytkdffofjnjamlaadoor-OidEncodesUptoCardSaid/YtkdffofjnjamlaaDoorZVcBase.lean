/- The base of a symbolic walk: kinds of data, and what values represent them in a world. -/
import Derived.Below
import Derived.Maps.AppendAt
import Derived.Laws.BytesArg
import Derived.KernelRfl
set_option linter.unusedVariables false
set_option linter.unusedSimpArgs false
namespace Go.Pl
end Go.Pl
namespace Go.Vc
open Go.RowKit

/-- Kinds of plain data. -/
inductive Kd where
  | int (k : IntKind) | bool | str | sl (k : Kd) | pair (a b : Kd) | unit
  deriving DecidableEq

@[reducible] def Kd.T : Kd → Type
  | .int _ => Int
  | .bool => Bool
  | .str => List Int
  | .sl k => List k.T
  | .pair a b => a.T × b.T
  | .unit => Unit

def Kd.dft : (k : Kd) → k.T
  | .int _ => (0 : Int)
  | .bool => false
  | .str => []
  | .sl _ => []
  | .pair a b => (a.dft, b.dft)
  | .unit => ()

/-- How many cells a value has. -/
def Kd.sz : Kd → Nat
  | .pair a b => a.sz + b.sz
  | .unit => 0
  | _ => 1

/-- Is a value of this kind an aggregate when it stands in a slot? -/
def Kd.isAgg : Kd → Bool
  | .pair _ _ | .unit => true
  | _ => false

/-- The zero value's cells. -/
def Kd.zero : Kd → List Value
  | .int k => [.int k 0]
  | .bool => [.bool false]
  | .str => [.string ⟨#[]⟩]
  | .sl _ => [.slice none 0 0]
  | .pair a b => a.zero ++ b.zero
  | .unit => []

def InR (k : IntKind) (x : Int) : Prop := k.min ≤ x ∧ x ≤ k.max

/-- What is known of data that came from memory: ranges and lengths. -/
def Kd.wf : (k : Kd) → k.T → Prop
  | .int k, x => InR k x
  | .bool, _ => True
  | .str, l => l.length ≤ 9223372036854775807 ∧ ∀ b ∈ l, 0 ≤ b ∧ b ≤ 255
  | .sl k, xs => xs.length ≤ 9223372036854775807 ∧ ∀ x ∈ xs, k.wf x
  | .pair a b, x => a.wf x.1 ∧ b.wf x.2
  | .unit, _ => True

/-- A string's bytes. -/
def bs (s : ByteArray) : List Int := s.data.toList.map fun b => (b.toNat : Int)

theorem bs_length (s : ByteArray) : (bs s).length = s.size := by
  simp [bs]

theorem bs_range (s : ByteArray) : ∀ b ∈ bs s, 0 ≤ b ∧ b ≤ 255 := by
  intro b hb
  simp only [bs, List.mem_map] at hb
  obtain ⟨u, _, rfl⟩ := hb
  have := u.toNat_lt
  omega

/-- The elements of a row that is read. -/
def Els {α : Type} (w : World) (rep : α → List Value → Prop) (sz : Nat) (ad : Addr) (xs : List α) : Prop :=
  ∀ i x, xs[i]? = some x → ∃ ecs, rep x ecs ∧ ∀ (j : Nat) (u : Value), ecs[j]? = some u → w.cell? (ad.add (i * sz + j)) = some u

/-- Cells represent data, reading no block of F. -/
def Rep (w : World) (F : Nat → Prop) : (k : Kd) → k.T → List Value → Prop
  | .int k, x, cs => cs = [.int k x] ∧ InR k x
  | .bool, b, cs => cs = [.bool b]
  | .str, l, cs => ∃ s : ByteArray, cs = [.string s] ∧ bs s = l ∧ s.size ≤ 9223372036854775807
  | .sl k, xs, cs => ∃ (A : Option Addr) (c : Nat), cs = [.slice A xs.length c] ∧ xs.length ≤ c ∧ c ≤ 9223372036854775807 ∧
      (xs ≠ [] → ∃ ad, A = some ad ∧ ad.block < w.heap.size ∧ ¬ F ad.block ∧ Els w (Rep w F k) k.sz ad xs)
  | .pair a b, x, cs => ∃ c1 c2, cs = c1 ++ c2 ∧ Rep w F a x.1 c1 ∧ Rep w F b x.2 c2
  | .unit, _, cs => cs = []

theorem Rep.length {w : World} {F : Nat → Prop} : ∀ {k : Kd} {x : k.T} {cs : List Value}, Rep w F k x cs → cs.length = k.sz
  | .int _, _, _, h => by obtain ⟨rfl, _⟩ := h; rfl
  | .bool, _, _, h => by obtain rfl := h; rfl
  | .str, _, _, h => by obtain ⟨_, rfl, _⟩ := h; rfl
  | .sl _, _, _, h => by obtain ⟨_, _, rfl, _⟩ := h; rfl
  | .pair a b, _, _, h => by
    obtain ⟨c1, c2, rfl, h1, h2⟩ := h
    simp [Kd.sz, h1.length, h2.length]
  | .unit, _, _, h => by obtain rfl := h; rfl

theorem Rep.one {w : World} {F : Nat → Prop} : ∀ {k : Kd} {x : k.T} {cs : List Value}, Rep w F k x cs → ∀ u ∈ cs, u.oneCell' = true
  | .int _, _, _, h => by obtain ⟨rfl, _⟩ := h; simp [Value.oneCell']
  | .bool, _, _, h => by obtain rfl := h; simp [Value.oneCell']
  | .str, _, _, h => by obtain ⟨_, rfl, _⟩ := h; simp [Value.oneCell']
  | .sl _, _, _, h => by obtain ⟨_, _, rfl, _⟩ := h; simp [Value.oneCell']
  | .pair a b, _, _, h => by
    obtain ⟨c1, c2, rfl, h1, h2⟩ := h
    intro u hu
    rcases List.mem_append.1 hu with hu | hu
    · exact h1.one u hu
    · exact h2.one u hu
  | .unit, _, _, h => by obtain rfl := h; simp

theorem Rep.wf {w : World} {F : Nat → Prop} : ∀ {k : Kd} {x : k.T} {cs : List Value}, Rep w F k x cs → k.wf x
  | .int _, _, _, h => h.2
  | .bool, _, _, _ => trivial
  | .str, l, _, h => by
    obtain ⟨s, _, rfl, hs⟩ := h
    exact ⟨by rw [bs_length]; exact hs, bs_range s⟩
  | .sl k, xs, _, h => by
    obtain ⟨A, c, _, h1, h2, h3⟩ := h
    refine ⟨Nat.le_trans h1 h2, fun x hx => ?_⟩
    obtain ⟨ad, _, _, _, he⟩ := h3 (fun e => by rw [e] at hx; cases hx)
    obtain ⟨i, hi⟩ := List.mem_iff_getElem?.1 hx
    obtain ⟨ecs, hr, _⟩ := he i x hi
    exact hr.wf
  | .pair a b, _, _, h => by
    obtain ⟨c1, c2, _, h1, h2⟩ := h
    exact ⟨h1.wf, h2.wf⟩
  | .unit, _, _, _ => trivial

theorem Els.imp {α : Type} {w w' : World} {rep rep' : α → List Value → Prop} {sz : Nat} {ad : Addr} {xs : List α} (h : Els w rep sz ad xs)
    (hr : ∀ x ∈ xs, ∀ cs, rep x cs → rep' x cs) (hc : ∀ j u, w.cell? (ad.add j) = some u → w'.cell? (ad.add j) = some u) : Els w' rep' sz ad xs := fun i x hx => by
  obtain ⟨ecs, h1, h2⟩ := h i x hx
  exact ⟨ecs, hr x (List.mem_iff_getElem?.2 ⟨i, hx⟩) _ h1, fun j u hu => hc _ _ (h2 j u hu)⟩

theorem add_block (ad : Addr) (j : Nat) : (ad.add j).block = ad.block := by unfold Addr.add; split <;> rfl

theorem cell_lt {w : World} {a : Addr} {v : Value} (h : w.cell? a = some v) : a.block < w.heap.size := World.block_lt_of_cell? w a h

/-- The world moves on outside of what is read; F may shrink. -/
theorem Rep.step {w w' : World} {F F' : Nat → Prop} (hs : w.heap.size ≤ w'.heap.size) (hw : ∀ b, b < w.heap.size → ¬ F b → w'.heap[b]? = w.heap[b]?) (hF : ∀ b, b < w.heap.size → F' b → F b) :
    ∀ {k : Kd} {x : k.T} {cs : List Value}, Rep w F k x cs → Rep w' F' k x cs
  | .int _, _, _, h => h
  | .bool, _, _, h => h
  | .str, _, _, h => h
  | .sl k, xs, cs, h => by
    obtain ⟨A, c, e, h1, h2, h3⟩ := h
    refine ⟨A, c, e, h1, h2, fun hne => ?_⟩
    obtain ⟨ad, ea, hlt, hf, he⟩ := h3 hne
    refine ⟨ad, ea, Nat.lt_of_lt_of_le hlt hs, fun hc => hf (hF _ hlt hc), he.imp (fun x _ cs hr => Rep.step hs hw hF hr) fun j u hu => ?_⟩
    rw [World.cell?_of_block (w := w) (by rw [add_block]; exact hw _ hlt hf)]; exact hu
  | .pair a b, _, _, h => by
    obtain ⟨c1, c2, e, h1, h2⟩ := h
    exact ⟨c1, c2, e, Rep.step hs hw hF h1, Rep.step hs hw hF h2⟩
  | .unit, _, _, h => h

/-- What is read lies in the heap. -/
theorem Rep.avoid {w : World} {F : Nat → Prop} {k : Kd} {x : k.T} {cs : List Value} (h : Rep w F k x cs) : Rep w (fun b => F b ∨ w.heap.size ≤ b) k x cs :=
  Rep.step (Nat.le_refl _) (fun _ _ _ => rfl) (fun b hb hc => hc.resolve_right (by omega)) h

theorem Rep.mono {w : World} {F F' : Nat → Prop} (hF : ∀ b, b < w.heap.size → F' b → F b) {k : Kd} {x : k.T} {cs : List Value} (h : Rep w F k x cs) : Rep w F' k x cs :=
  Rep.step (Nat.le_refl _) (fun _ _ _ => rfl) hF h
end Go.Vc
