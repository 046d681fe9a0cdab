/- The operations of a walk that only compute and read. -/
import Derived.Test.YtkdffofjnjamlaaDoorZVcHeap
import Derived.Tactics
import Derived.Laws.Slices
import Derived.Laws.Strings2
import Derived.Laws.Strings3
import Derived.Laws.Concat
import Derived.Laws.Bits
import Derived.Laws.StructEq
set_option linter.unusedVariables false
set_option linter.unusedSimpArgs false
namespace Go.Vc
open Go.RowKit

/-- What is asked of a type. -/
inductive TD where
  | int (k : IntKind) | bool | str | sl (e : Nat) | arr (n : Nat) (e : Nat) | st (fs : List (Nat × Nat)) | ptr (e : Nat) | fn | ifc | oth

def TD.ok (P : Program) (t : Nat) : TD → Prop
  | .int k => P.underlying t = some (.int k)
  | .bool => P.underlying t = some .bool
  | .str => P.underlying t = some .string
  | .sl e => P.underlying t = some (.slice e)
  | .arr n e => P.underlying t = some (.array n e)
  | .st fs => P.underlying t = some (.struct (P.fieldsOf t)) ∧ (P.fieldsOf t).toList.map (fun f => (f.type, f.offset)) = fs
  | .ptr e => P.underlying t = some (.pointer e)
  | .fn => ∃ p r v, P.underlying t = some (.func p r v)
  | .ifc => ∃ m, P.underlying t = some (.interface m)
  | .oth => True

structure TI where
  d : TD
  k : Option Kd
  sz : Nat
  bytes : Nat
  z : List Value

def TD.isAgg : TD → Bool
  | .arr _ _ | .st _ => true
  | _ => false

def TI.ok (P : Program) (t : Nat) (i : TI) : Prop :=
  i.d.ok P t ∧ (P.info? t).map (fun f => (f.size, f.bytes)) = some (i.sz, i.bytes) ∧ (P.info? t).map (fun f => f.zero.map (·.cells.toList)) = some (some i.z) ∧
    ∀ k, i.k = some k → k.isAgg = i.d.isAgg ∧ k.sz = i.sz ∧ i.z = k.zero

/-- The program's types, as the walk asks them. -/
structure Ty where
  P : Program
  tys : List (Nat × TI)

def Ty.Ok (E : Ty) : Prop := ∀ t i, E.tys.lookup t = some i → i.ok E.P t

def Ty.d (E : Ty) (t : Nat) : TD := match E.tys.lookup t with | some i => i.d | none => .oth
def Ty.k (E : Ty) (t : Nat) : Option Kd := match E.tys.lookup t with | some i => i.k | none => none
def Ty.sz (E : Ty) (t : Nat) : Option Nat := match E.tys.lookup t with | some i => some i.sz | none => none
def Ty.z (E : Ty) (t : Nat) : Option (List Value) := match E.tys.lookup t with | some i => some i.z | none => none
def Ty.bytes (E : Ty) (t : Nat) : Nat := match E.tys.lookup t with | some i => i.bytes | none => 0

theorem Ty.Ok.d {E : Ty} (h : E.Ok) (t : Nat) : (E.d t).ok E.P t := by
  unfold Ty.d
  split
  · rename_i i hi; exact (h t i hi).1
  · trivial

theorem Ty.Ok.sz {E : Ty} (h : E.Ok) {t n : Nat} (hk : E.sz t = some n) : ∃ inf, E.P.info? t = some inf ∧ inf.size = n ∧ inf.bytes = E.bytes t := by
  unfold Ty.sz at hk
  unfold Ty.bytes
  cases hi : E.tys.lookup t with
  | some i =>
    rw [hi] at hk
    cases hk
    obtain ⟨inf, h1, h2⟩ := Option.map_eq_some_iff.1 (h t i hi).2.1
    simp only [Prod.mk.injEq] at h2
    exact ⟨inf, h1, h2.1, h2.2⟩
  | none => rw [hi] at hk; cases hk

theorem Ty.Ok.z {E : Ty} (h : E.Ok) {t : Nat} {l : List Value} (hk : E.z t = some l) : ∃ inf z, E.P.info? t = some inf ∧ inf.zero = some z ∧ z.cells.toList = l ∧ E.sz t = some inf.size := by
  unfold Ty.z at hk
  unfold Ty.sz
  cases hi : E.tys.lookup t with
  | some i =>
    rw [hi] at hk
    cases hk
    obtain ⟨_, h0, h1, _⟩ := h t i hi
    obtain ⟨inf, h2, h3⟩ := Option.map_eq_some_iff.1 h1
    obtain ⟨z, h4, h5⟩ := Option.map_eq_some_iff.1 h3
    obtain ⟨inf', h6, h7⟩ := Option.map_eq_some_iff.1 h0
    rw [h2] at h6
    cases h6
    simp only [Prod.mk.injEq] at h7
    exact ⟨inf, z, h2, h4, h5, by simp [h7.1]⟩
  | none => rw [hi] at hk; cases hk

theorem Ty.Ok.k {E : Ty} (h : E.Ok) {t : Nat} {k : Kd} (hk : E.k t = some k) :
    k.isAgg = (E.d t).isAgg ∧ E.sz t = some k.sz ∧ ∃ inf z, E.P.info? t = some inf ∧ inf.size = k.sz ∧ inf.bytes = E.bytes t ∧ inf.zero = some z ∧ z.cells.toList = k.zero := by
  unfold Ty.k at hk
  unfold Ty.d Ty.bytes Ty.sz
  cases hi : E.tys.lookup t with
  | some i =>
    rw [hi] at hk
    obtain ⟨_, h1, h5, h2⟩ := h t i hi
    obtain ⟨h3, h4, h6⟩ := h2 k hk
    obtain ⟨inf, h7, h8⟩ := Option.map_eq_some_iff.1 h1
    obtain ⟨inf', h9, h10⟩ := Option.map_eq_some_iff.1 h5
    rw [h7] at h9
    cases h9
    obtain ⟨z, h11, h12⟩ := Option.map_eq_some_iff.1 h10
    simp only [Prod.mk.injEq] at h8
    exact ⟨h3, by simp [h4], inf, z, h7, by rw [h4]; exact h8.1, h8.2, h11, by rw [h12, h6]⟩
  | none => rw [hi] at hk; cases hk

/-! ### What represents what -/
theorem VRep_int {w : World} {F : Nat → Prop} {k : IntKind} {x : Int} {v : Value} : VRep w F (.int k) x v ↔ v = .int k x ∧ InR k x := by
  constructor
  · rintro ⟨cs, ⟨h1, h2⟩, h3⟩
    simp only [Kd.isAgg, Bool.false_eq_true, if_false] at h3
    rw [h1] at h3
    exact ⟨by simpa using h3.symm, h2⟩
  · rintro ⟨rfl, h⟩
    exact ⟨_, ⟨rfl, h⟩, by simp [Kd.isAgg]⟩
theorem VRep_bool {w : World} {F : Nat → Prop} {x : Bool} {v : Value} : VRep w F .bool x v ↔ v = .bool x := by
  constructor
  · rintro ⟨cs, h1, h3⟩
    simp only [Kd.isAgg, Bool.false_eq_true, if_false] at h3
    have h1 : cs = [.bool x] := h1
    rw [h1] at h3
    simpa using h3.symm
  · rintro rfl
    exact ⟨_, rfl, by simp [Kd.isAgg]⟩
theorem VRep_str {w : World} {F : Nat → Prop} {l : List Int} {v : Value} : VRep w F .str l v ↔ ∃ s : ByteArray, v = .string s ∧ bs s = l ∧ s.size ≤ 9223372036854775807 := by
  constructor
  · rintro ⟨cs, ⟨s, h1, h2, h4⟩, h3⟩
    simp only [Kd.isAgg, Bool.false_eq_true, if_false] at h3
    rw [h1] at h3
    exact ⟨s, by simpa using h3.symm, h2, h4⟩
  · rintro ⟨s, rfl, h⟩
    exact ⟨_, ⟨s, rfl, h⟩, by simp [Kd.isAgg]⟩
theorem VRep_sl {w : World} {F : Nat → Prop} {k : Kd} {xs : List k.T} {v : Value} : VRep w F (.sl k) xs v ↔ ∃ (A : Option Addr) (c : Nat), v = .slice A xs.length c ∧ xs.length ≤ c ∧ c ≤ 9223372036854775807 ∧
      (xs ≠ [] → ∃ ad, A = some ad ∧ ad.block < w.heap.size ∧ ¬ F ad.block ∧ Els w (Rep w F k) k.sz ad xs) := by
  constructor
  · rintro ⟨cs, ⟨A, c, h1, h2⟩, h3⟩
    simp only [Kd.isAgg, Bool.false_eq_true, if_false] at h3
    rw [h1] at h3
    exact ⟨A, c, by simpa using h3.symm, h2⟩
  · rintro ⟨A, c, rfl, h⟩
    exact ⟨_, ⟨A, c, rfl, h⟩, by simp [Kd.isAgg]⟩

/-! ### Ranges -/
theorem wrap_InR (k : IntKind) (n : Int) : InR k (k.wrap n) := by
  cases k <;> simp only [InR, IntKind.min, IntKind.max, IntKind.wrap, IntKind.signed, IntKind.bits, Bool.true_and, Bool.false_and, if_true, Bool.false_eq_true, if_false] <;> first | omega | (split <;> rename_i h <;> simp at h <;> omega)

theorem InR_between {k : IntKind} {x y : Int} (h : InR k x) (hy : (0 ≤ y ∧ y ≤ x) ∨ (x ≤ y ∧ y ≤ 0)) : InR k y := by
  have h0 : k.min ≤ 0 ∧ 0 ≤ k.max := by cases k <;> decide
  obtain ⟨a, b⟩ := h
  exact ⟨by omega, by omega⟩

theorem tmod_between (x y : Int) : (0 ≤ x.tmod y ∧ x.tmod y ≤ x) ∨ (x ≤ x.tmod y ∧ x.tmod y ≤ 0) := by
  rcases Int.le_total 0 x with h | h
  · refine .inl ⟨Int.tmod_nonneg y h, ?_⟩
    have h1 := Int.natAbs_tmod x y
    have h2 : x.natAbs % y.natAbs ≤ x.natAbs := Nat.mod_le _ _
    have h3 := Int.tmod_nonneg y h
    omega
  · have hn : (-x).tmod y = -(x.tmod y) := Int.neg_tmod x y
    have h3 := Int.tmod_nonneg y (show 0 ≤ -x by omega)
    have h1 := Int.natAbs_tmod (-x) y
    have h2 : (-x).natAbs % y.natAbs ≤ (-x).natAbs := Nat.mod_le _ _
    refine .inr ⟨?_, ?_⟩ <;> omega

theorem fdiv_between (x : Int) (n : Nat) : (0 ≤ x.fdiv (2 ^ n) ∧ x.fdiv (2 ^ n) ≤ x) ∨ (x ≤ x.fdiv (2 ^ n) ∧ x.fdiv (2 ^ n) ≤ 0) := by
  have hp : (0 : Int) < 2 ^ n := by exact_mod_cast Nat.pow_pos (n := n) (show 0 < 2 by omega)
  rw [Int.fdiv_eq_ediv_of_nonneg _ (Int.le_of_lt hp)]
  rcases Int.le_total 0 x with h | h
  · exact .inl ⟨Int.ediv_nonneg h (Int.le_of_lt hp), Int.ediv_le_self _ h⟩
  · refine .inr ⟨?_, ?_⟩
    · have := Int.le_ediv_of_mul_le hp (a := x) (b := x) (by
        have : x * 2 ^ n ≤ x * 1 := Int.mul_le_mul_of_nonpos_left h (by omega)
        omega)
      exact this
    · have := Int.ediv_le_ediv hp h
      simpa using this

/-! ### Reading a state -/
def cSV : Value → SV
  | .int k n => if k.min ≤ n ∧ n ≤ k.max then .dat (.int k) n else .cst (.int k n)
  | .bool b => .cst (.bool b)
  | .string s => if s.size ≤ 9223372036854775807 then .dat .str (bs s) else .cst (.string s)
  | v => .cst v

theorem cSV_rel (C : Cx) (v : Value) : (cSV v).rel C v := by
  cases v <;> simp only [cSV] <;> try rfl
  case int k n =>
    split
    · rename_i h; exact VRep_int.2 ⟨rfl, h⟩
    · rfl
  case string s =>
    split
    · rename_i h; exact VRep_str.2 ⟨s, rfl, rfl, h⟩
    · rfl

def St.ev (st : St) : Operand → SV
  | .tmp t => match st.sl.lookup t with | some s => s | none => .junk
  | .const v => cSV v
  | .func f => .fn f []
  | .global g => match st.gl.lookup g with
    | some (.arr k xs) => .aar k xs
    | some (.one k x) => .adr k x
    | some (.num _) => .junk
    | some (.raw _) => .junk
    | none => .junk

theorem ev_rel {B : Base} {ρ : Nat → Value} {st : St} {a : Act} {fs : List Act} {w : World} (h : StRel B ρ st a fs w) (x : Operand) :
    (st.ev x).rel (cx B ρ st.hp w) (a.eval x) := by
  cases x with
  | tmp t =>
    simp only [St.ev]
    split
    · rename_i s hs; exact (h.s.2 t s hs).2
    · trivial
  | const v => exact cSV_rel _ v
  | func f => exact ⟨[], rfl, rfl⟩
  | global g =>
    simp only [St.ev]
    split
    · rename_i k xs hs
      obtain ⟨h1, h2, h3⟩ := h.gls g _ hs
      exact ⟨_, rfl, h1, h2, h3⟩
    · rename_i k x hs
      obtain ⟨h1, h2, cs, h3, h4⟩ := h.gls g _ hs
      exact ⟨_, cs, rfl, h3, h1, h2, h4⟩
    · trivial
    · trivial
    · trivial

/-- Behind a guard: what is asked, and the value. -/
def SV.ug : SV → List Prop × SV
  | .gd p s => ([p = true], s)
  | s => ([], s)

theorem ug_rel {C : Cx} {s : SV} {v : Value} (h : s.rel C v) (ho : ∀ p ∈ s.ug.1, p) : s.ug.2.rel C v := by
  cases s <;> try exact h
  case gd p s => exact h.1 (ho _ (by simp [SV.ug]))

/-! ### Operators -/
def ibit (op : BinOp) (k : IntKind) (x y : Int) : Int :=
  match op with
  | .and => k.wrap (BitVec.ofInt k.bits x &&& BitVec.ofInt k.bits y).toNat
  | .or => k.wrap (BitVec.ofInt k.bits x ||| BitVec.ofInt k.bits y).toNat
  | .xor => k.wrap (BitVec.ofInt k.bits x ^^^ BitVec.ofInt k.bits y).toNat
  | _ => k.wrap (BitVec.ofInt k.bits x &&& ~~~ BitVec.ofInt k.bits y).toNat

abbrev PR := Option (List Prop × SV)

def binInt (op : BinOp) (k : IntKind) (x y : Int) : PR :=
  match op with
  | .add => some ([], .dat (.int k) (k.wrap (x + y)))
  | .sub => some ([], .dat (.int k) (k.wrap (x - y)))
  | .mul => some ([], .dat (.int k) (k.wrap (x * y)))
  | .quo => some ([y ≠ 0], .dat (.int k) (k.wrap (x.tdiv y)))
  | .rem => some ([y ≠ 0], .dat (.int k) (x.tmod y))
  | .and => some ([], .dat (.int k) (ibit .and k x y))
  | .or => some ([], .dat (.int k) (ibit .or k x y))
  | .xor => some ([], .dat (.int k) (ibit .xor k x y))
  | .andNot => some ([], .dat (.int k) (ibit .andNot k x y))
  | .eql => some ([], .dat .bool (decide (x = y)))
  | .neq => some ([], .dat .bool (decide (x ≠ y)))
  | .lss => some ([], .dat .bool (decide (x < y)))
  | .leq => some ([], .dat .bool (decide (x ≤ y)))
  | .gtr => some ([], .dat .bool (decide (y < x)))
  | .geq => some ([], .dat .bool (decide (y ≤ x)))
  | _ => none

def binShift (op : BinOp) (k : IntKind) (x y : Int) : PR :=
  match op with
  | .shl => some ([0 ≤ y], .dat (.int k) (k.wrap (x * 2 ^ (min y.toNat k.bits))))
  | .shr => some ([0 ≤ y], .dat (.int k) (x.fdiv (2 ^ (min y.toNat k.bits))))
  | _ => none

def bytesLt : List Int → List Int → Bool
  | _, [] => false
  | [], _ :: _ => true
  | a :: x, b :: y => decide (a < b) || (decide (a = b) && bytesLt x y)

def binStr (op : BinOp) (l m : List Int) : PR :=
  match op with
  | .add => some ([l.length + m.length ≤ 9223372036854775807], .dat .str (l ++ m))
  | .eql => some ([], .dat .bool (decide (l = m)))
  | .neq => some ([], .dat .bool (decide (l ≠ m)))
  | .lss => some ([], .dat .bool (bytesLt l m))
  | .leq => some ([], .dat .bool (bytesLt l m || decide (l = m)))
  | .gtr => some ([], .dat .bool (!(bytesLt l m || decide (l = m))))
  | .geq => some ([], .dat .bool (!bytesLt l m))
  | _ => none

theorem bs_inj {a b : ByteArray} : bs a = bs b ↔ a.toList = b.toList := by
  rw [ByteArray.toList_eq, ByteArray.toList_eq]
  constructor
  · intro h
    exact (List.map_inj_right (fun x y e => UInt8.toNat_inj.1 (by exact_mod_cast e))).1 h
  · intro h; simp only [bs, h]

theorem bytesLt_bs : ∀ (a b : List UInt8), bytesLt (a.map fun b => (b.toNat : Int)) (b.map fun b => (b.toNat : Int)) = Op.bytesLess a b
  | _, [] => by cases ‹List UInt8› <;> rfl
  | [], _ :: _ => rfl
  | a :: x, b :: y => by
    simp only [List.map_cons, bytesLt, Op.bytesLess, bytesLt_bs x y]
    congr 1
    · simp [UInt8.lt_iff_toNat_lt]
    · congr 1
      by_cases h : a = b
      · simp [h]
      · have : ¬ ((a.toNat : Int) = (b.toNat : Int)) := fun e => h (UInt8.toNat_inj.1 (by exact_mod_cast e))
        simp [h, this]

section
variable {P : Program} {w : World} {C : Cx}

theorem binInt_sound {op : BinOp} {k : IntKind} {x y : Int} {obs : List Prop} {s : SV} (h : binInt op k x y = some (obs, s)) (ho : ∀ p ∈ obs, p) (hx : InR k x) (t : TypeId) :
    ∃ v, (binOp op t (.int k x) (.int k y)).run P w = .ok v w ∧ s.rel C v := by
  cases op <;> simp only [binInt] at h <;> (try cases h) <;> simp only [binOp, ne_eq, not_true_eq_false, if_false]
  case add => exact ⟨_, rfl, VRep_int.2 ⟨rfl, wrap_InR _ _⟩⟩
  case sub => exact ⟨_, rfl, VRep_int.2 ⟨rfl, wrap_InR _ _⟩⟩
  case mul => exact ⟨_, rfl, VRep_int.2 ⟨rfl, wrap_InR _ _⟩⟩
  case quo =>
    have : y ≠ 0 := ho _ (by simp)
    exact ⟨_, by simp [Op.intDiv, this], VRep_int.2 ⟨rfl, wrap_InR _ _⟩⟩
  case rem =>
    have : y ≠ 0 := ho _ (by simp)
    exact ⟨_, by simp [Op.intDiv, this], VRep_int.2 ⟨rfl, InR_between hx (tmod_between x y)⟩⟩
  case and => exact ⟨_, rfl, VRep_int.2 ⟨rfl, wrap_InR _ _⟩⟩
  case or => exact ⟨_, rfl, VRep_int.2 ⟨rfl, wrap_InR _ _⟩⟩
  case xor => exact ⟨_, rfl, VRep_int.2 ⟨rfl, wrap_InR _ _⟩⟩
  case andNot => exact ⟨_, rfl, VRep_int.2 ⟨rfl, wrap_InR _ _⟩⟩
  case eql => exact ⟨_, rfl, VRep_bool.2 (by congr 1)⟩
  case neq => exact ⟨_, rfl, VRep_bool.2 (by congr 1; simp [bne]; rfl)⟩
  case lss => exact ⟨_, rfl, VRep_bool.2 rfl⟩
  case leq => exact ⟨_, rfl, VRep_bool.2 rfl⟩
  case gtr => exact ⟨_, rfl, VRep_bool.2 rfl⟩
  case geq => exact ⟨_, rfl, VRep_bool.2 rfl⟩

theorem binShift_sound {op : BinOp} {k k' : IntKind} {x y : Int} {obs : List Prop} {s : SV} (h : binShift op k x y = some (obs, s)) (ho : ∀ p ∈ obs, p) (hx : InR k x) (t : TypeId) :
    ∃ v, (binOp op t (.int k x) (.int k' y)).run P w = .ok v w ∧ s.rel C v := by
  cases op <;> simp only [binShift] at h <;> (try cases h) <;> simp only [binOp]
  case shl =>
    have hy : ¬ y < 0 := by have : 0 ≤ y := ho _ (by simp); omega
    exact ⟨_, by simp only [Op.shift, hy, if_false]; rfl, VRep_int.2 ⟨rfl, wrap_InR _ _⟩⟩
  case shr =>
    have hy : ¬ y < 0 := by have : 0 ≤ y := ho _ (by simp); omega
    exact ⟨_, by simp only [Op.shift, hy, if_false]; rfl, VRep_int.2 ⟨rfl, InR_between hx (fdiv_between x _)⟩⟩

theorem bs_append (a b : ByteArray) : bs (a ++ b) = bs a ++ bs b := by
  simp [bs]

theorem binStr_sound {op : BinOp} {a b : ByteArray} {obs : List Prop} {s : SV} (h : binStr op (bs a) (bs b) = some (obs, s)) (ho : ∀ p ∈ obs, p) (t : TypeId) :
    ∃ v, (binOp op t (.string a) (.string b)).run P w = .ok v w ∧ s.rel C v := by
  have e1 : (a.toList == b.toList) = decide (bs a = bs b) := by
    rw [Bool.eq_iff_iff]; simp [bs_inj]
  have e2 : Op.bytesLess a.toList b.toList = bytesLt (bs a) (bs b) := by
    rw [ByteArray.toList_eq, ByteArray.toList_eq]; exact (bytesLt_bs _ _).symm
  cases op <;> simp only [binStr] at h <;> (try cases h) <;> simp only [binOp]
  case add =>
    have hl : (bs a).length + (bs b).length ≤ 9223372036854775807 := ho _ (by simp)
    rw [bs_length, bs_length] at hl
    exact ⟨_, run_string_add_sum w a b hl, VRep_str.2 ⟨_, rfl, bs_append a b, by rw [ByteArray.size_append]; exact hl⟩⟩
  case eql => exact ⟨_, rfl, VRep_bool.2 (by rw [e1])⟩
  case neq => exact ⟨_, rfl, VRep_bool.2 (by rw [e1]; simp)⟩
  case lss => exact ⟨_, rfl, VRep_bool.2 (by rw [e2])⟩
  case leq => exact ⟨_, rfl, VRep_bool.2 (by rw [e1, e2])⟩
  case gtr => exact ⟨_, rfl, VRep_bool.2 (by rw [e1, e2])⟩
  case geq => exact ⟨_, rfl, VRep_bool.2 (by rw [e2])⟩
end
end Go.Vc
