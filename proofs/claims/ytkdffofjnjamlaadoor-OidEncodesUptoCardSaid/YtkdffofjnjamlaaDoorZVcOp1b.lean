/- Slicing, fields, and one function for all operations that change nothing. -/
import Derived.Test.YtkdffofjnjamlaaDoorZVcOp1
import Derived.Laws.Small
set_option linter.unusedVariables false
set_option linter.unusedSimpArgs false
namespace Go.Vc
open Go.RowKit

/-- A bound of a slice expression. -/
def St.bnd (st : St) : Option Operand → Option (List Prop × Option Int)
  | none => some ([], none)
  | some x => match st.g x with
    | (o, .dat (.int _) n) => some (o, some n)
    | _ => none

def cutList {α : Type} (xs : List α) (lo hi : Option Int) : List α :=
  match lo, hi with
  | none, none => xs
  | some l, none => xs.drop l.toNat
  | none, some h => xs.take h.toNat
  | some l, some h => (xs.take h.toNat).drop l.toNat

/-- What a slice expression asks: the bounds within n. -/
def cutOb (lo hi : Option Int) (n : Nat) : List Prop :=
  match lo, hi with
  | none, none => []
  | some l, none => [0 ≤ l ∧ l ≤ n]
  | none, some h => [0 ≤ h ∧ h ≤ n]
  | some l, some h => [0 ≤ l ∧ l ≤ h ∧ h ≤ n]

def hiCap (hi : Option Int) (len cap : Nat) : Nat := match hi with | some _ => cap | none => len
def cutLo (lo : Option Int) : Nat := match lo with | some l => l.toNat | none => 0
def cutHi (hi : Option Int) (n : Nat) : Nat := match hi with | some h => h.toNat | none => n

/-- xs[lo:hi], with what its capacity allows (m). -/
def St.slice (E : Ty) (st : St) (t : Nat) (s : SV) (lo hi : Option Int) : PR :=
  match E.d t, s with
  | .str, .dat .str l => some (cutOb lo hi l.length, .dat .str (cutList l lo hi))
  | .sl e, .dat (.sl k) xs => if E.k e = some k then some (cutOb lo hi xs.length, .dat (.sl k) (cutList xs lo hi)) else none
  | .sl e, .own n => match st.row n with
    | some ⟨k, xs⟩ => if E.k e = some k then
        match lo, hi with
        | none, none => some ([], .own n)
        | _, _ => some (cutOb lo hi xs.length, .sub n k (cutLo lo) (cutHi hi xs.length - cutLo lo))
      else none
    | none => none
  | .sl e, .sub n k off len => match st.row n with
    | some ⟨k', xs⟩ => if E.k e = some k ∧ k' = k then
        match hi with
        | none => some (cutOb lo none len, .sub n k (off + cutLo lo) (len - cutLo lo))
        | some h => some (cutOb lo hi (xs.length - off), .sub n k (off + cutLo lo) (h.toNat - cutLo lo))
      else none
    | none => none
  | .sl e, .cst c => match E.k e with
    | some _ => if nilSlice c then some (cutOb lo hi 0, .cst c) else none
    | none => none
  | .arr m e, .rptr n => match st.row n with
    | some ⟨k, xs⟩ => if E.k e = some k then some (cutOb lo hi m ++ [xs.length = m], .sub n k (cutLo lo) (cutHi hi m - cutLo lo)) else none
    | none => none
  | _, _ => none

theorem map_add0 (A : Option Addr) (s : Nat) : A = A.map (·.add (0 * s)) := by
  cases A with
  | none => rfl
  | some a => simp [Addr.add_zero']

section
variable {E : Ty} {B : Base} {ρ : Nat → Value} {st : St} {a : Act} {fs : List Act} {w : World} {obs : List Prop} {s : SV} {v : Value}

def ints (k : IntKind) (x : Option Int) : Option Value := x.map (Value.int k)

theorem run_sliceBounds {P : Program} {isSlice : Bool} {len cap : Nat} {kl kh : IntKind} {lo hi : Option Int}
    (ho : ∀ p ∈ cutOb lo hi (hiCap hi len cap), p) (_hlc : len ≤ cap) :
    (Instr.sliceBounds isSlice len cap (ints kl lo) (ints kh hi) none).run P w = .ok (cutLo lo, cutHi hi len, cap) w ∧ cutLo lo ≤ cutHi hi len ∧ (cutHi hi len ≤ hiCap hi len cap) := by
  cases lo with
  | none =>
    cases hi with
    | none => exact ⟨by simp [Instr.sliceBounds, ints, cutLo, cutHi], by simp [cutLo], by simp [cutHi, hiCap]⟩
    | some h =>
      have : 0 ≤ h ∧ h ≤ (cap : Int) := ho _ (by simp [cutOb, hiCap])
      exact ⟨by simp [Instr.sliceBounds, ints, cutLo, cutHi, run_sliceBound, this], by simp [cutLo], by simp only [cutHi, hiCap]; omega⟩
  | some l =>
    cases hi with
    | none =>
      have : 0 ≤ l ∧ l ≤ (len : Int) := ho _ (by simp [cutOb, hiCap])
      exact ⟨by simp [Instr.sliceBounds, ints, cutLo, cutHi, run_sliceBound, this], by simp only [cutLo, cutHi]; omega, by simp [cutHi, hiCap]⟩
    | some h =>
      have : 0 ≤ l ∧ l ≤ h ∧ h ≤ (cap : Int) := ho _ (by simp [cutOb, hiCap])
      have h0 : 0 ≤ h := by omega
      have h1 : l ≤ ((h.toNat : Nat) : Int) := by omega
      exact ⟨by simp only [Instr.sliceBounds, ints, cutLo, cutHi, Option.map_some, Sem.run_bind, run_sliceBound w _ h cap _ h0 this.2.2, Result.andThen_ok, run_sliceBound w _ l h.toNat _ this.1 h1, Sem.run_pure], by simp only [cutLo, cutHi]; omega, by simp only [cutHi, hiCap]; omega⟩

theorem cutOb_mono {lo hi : Option Int} {n m : Nat} (h : ∀ p ∈ cutOb lo hi n, p) (hnm : n ≤ m) : ∀ p ∈ cutOb lo hi m, p := by
  cases lo <;> cases hi <;> simp only [cutOb, List.mem_singleton, List.not_mem_nil, forall_eq, false_implies, implies_true] at h ⊢ <;> omega

theorem cutList_eq {α : Type} (xs : List α) {lo hi : Option Int} (h : ∀ p ∈ cutOb lo hi xs.length, p) :
    cutList xs lo hi = (xs.drop (cutLo lo)).take (cutHi hi xs.length - cutLo lo) ∧ cutLo lo ≤ cutHi hi xs.length ∧ cutHi hi xs.length ≤ xs.length := by
  cases lo with
  | none => cases hi with
    | none => exact ⟨by simp [cutList, cutLo, cutHi], by simp [cutLo], by simp [cutHi]⟩
    | some h' =>
      have : 0 ≤ h' ∧ h' ≤ (xs.length : Int) := h _ (by simp [cutOb])
      exact ⟨by simp [cutList, cutLo, cutHi], by simp [cutLo], by simp only [cutHi]; omega⟩
  | some l => cases hi with
    | none =>
      have : 0 ≤ l ∧ l ≤ (xs.length : Int) := h _ (by simp [cutOb])
      exact ⟨by simp only [cutList, cutLo, cutHi]; rw [List.take_of_length_le (by simp)], by simp only [cutLo, cutHi]; omega, by simp [cutHi]⟩
    | some h' =>
      have : 0 ≤ l ∧ l ≤ h' ∧ h' ≤ (xs.length : Int) := h _ (by simp [cutOb])
      exact ⟨by simp only [cutList, cutLo, cutHi]; rw [List.drop_take], by simp only [cutLo, cutHi]; omega, by simp only [cutHi]; omega⟩

theorem cutList_length {α : Type} (xs : List α) {lo hi : Option Int} (h : ∀ p ∈ cutOb lo hi xs.length, p) : (cutList xs lo hi).length = cutHi hi xs.length - cutLo lo := by
  obtain ⟨e, h1, h2⟩ := cutList_eq xs h
  rw [e]; simp; omega

theorem bs_extract (s : ByteArray) (i j : Nat) : bs (s.extract i j) = ((bs s).drop i).take (j - i) := by
  have : (s.extract i j).data.toList = (s.data.toList.drop i).take (j - i) := by
    rw [ByteArray.data_extract, Array.toList_extract, List.extract_eq_take_drop]
  unfold bs
  rw [this, List.map_take, List.map_drop]

/-- A slice expression over a slice that can be read. -/
theorem els_cut {α : Type} {rep : α → List Value → Prop} {sz : Nat} {ad : Addr} {xs : List α} (h : Els w rep sz ad xs) (off len : Nat) : Els w rep sz (ad.add (off * sz)) ((xs.drop off).take len) := fun i x hx => by
  rw [List.getElem?_take] at hx
  split at hx
  · rw [List.getElem?_drop] at hx
    obtain ⟨ecs, hr, hc⟩ := h (off + i) x hx
    refine ⟨ecs, hr, fun j u hu => ?_⟩
    rw [addr_add_add, ← Nat.add_assoc, ← Nat.add_mul]
    exact hc j u hu
  · cases hx

theorem run_slice_of {P : Program} {t e : Nat} (hd : P.underlying t = some (.slice e)) {inf : TypeInfo} (hi : P.info? e = some inf) {A : Option Addr} {len cap : Nat} {lo hi' : Option Value} {l h m : Nat}
    (hb : (Instr.sliceBounds true len cap lo hi' none).run P w = .ok (l, h, m) w) :
    (Instr.sliceAt t (.slice A len cap) lo hi' none).run P w = .ok (.slice (if m = l then A else A.map (·.add (l * inf.size))) (h - l) (m - l)) w := by
  simp only [Instr.sliceAt, Sem.run_bind, run_underlying hd, Result.andThen_ok, Instr.slice, hb, run_sizeOf hi, Sem.run_pure]

theorem slice_sound (hE : E.Ok) (h : StRel B ρ st a fs w) {t : Nat} {s' : SV} {lo hi : Option Int} {kl kh : IntKind} (hop : st.slice E t s lo hi = some (obs, s')) (ho : ∀ p ∈ obs, p) (hs : s.rel (cx B ρ st.hp w) v) :
    ∃ v', (Instr.sliceAt t v (ints kl lo) (ints kh hi) none).run E.P w = .ok v' w ∧ s'.rel (cx B ρ st.hp w) v' := by
  have hd := hE.d t
  unfold St.slice at hop
  split at hop
  · rename_i l e1
    rw [e1] at hd
    have hd : E.P.underlying t = some .string := hd
    cases hop
    obtain ⟨s, rfl, rfl, h3⟩ := VRep_str.1 hs
    have ho' : ∀ p ∈ cutOb lo hi (hiCap hi s.size s.size), p := by
      have : hiCap hi s.size s.size = s.size := by cases hi <;> rfl
      rw [this, ← bs_length]; exact ho
    obtain ⟨r1, r2, r3⟩ := run_sliceBounds (P := E.P) (w := w) (isSlice := false) (kl := kl) (kh := kh) ho' (Nat.le_refl _)
    obtain ⟨c1, c2, c3⟩ := cutList_eq (bs s) ho
    rw [bs_length] at c1 c2 c3
    refine ⟨.string (s.extract (cutLo lo) (cutHi hi s.size)), by simp [Instr.sliceAt, run_underlying hd, Instr.slice, r1], VRep_str.2 ⟨_, rfl, ?_, ?_⟩⟩
    · rw [bs_extract, c1]
    · rw [ByteArray.size_extract]; omega
  · rename_i e k xs e1
    rw [e1] at hd
    have hd : E.P.underlying t = some (.slice e) := hd
    split at hop
    · rename_i hk
      cases hop
      obtain ⟨_, _, inf, z, hi0, hsz, _⟩ := hE.k hk
      obtain ⟨A, c, rfl, h1, h2, h3⟩ := VRep_sl.1 hs
      have ho' : ∀ p ∈ cutOb lo hi (hiCap hi xs.length c), p := by
        cases hi with
        | none => exact ho
        | some _ => exact cutOb_mono ho h1
      obtain ⟨r1, r2, r3⟩ := run_sliceBounds (P := E.P) (w := w) (isSlice := true) (kl := kl) (kh := kh) ho' h1
      obtain ⟨c1, c2, c3⟩ := cutList_eq xs ho
      have c4 := cutList_length xs ho
      refine ⟨_, run_slice_of hd hi0 r1, VRep_sl.2 ⟨_, _, by rw [c4], by omega, by omega, fun hne => ?_⟩⟩
      have hpos : 0 < (cutList xs lo hi).length := List.length_pos_iff.2 hne
      obtain ⟨ad, rfl, h4, h5, h6⟩ := h3 (fun e => by subst e; simp only [List.length_nil] at c3 c4; omega)
      rw [if_neg (by omega)]
      exact ⟨_, rfl, by rw [add_block]; exact h4, by rw [add_block]; exact h5, by rw [c1, hsz]; exact els_cut h6 _ _⟩
    · cases hop
  · rename_i e n e1
    rw [e1] at hd
    have hd : E.P.underlying t = some (.slice e) := hd
    split at hop
    · rename_i k xs hrow
      split at hop
      · rename_i hk
        obtain ⟨_, _, inf, z, hi0, hsz, _⟩ := hE.k hk
        obtain ⟨e', he⟩ := St.row_some hrow
        obtain ⟨A, c, e3, h1, h2, h3, h4⟩ := row_rel (h.h.obj n _ he)
        have hs' := hs
        obtain ⟨hn, rfl, _⟩ := hs
        have main : cutOb lo hi xs.length = obs → ∃ v', (Instr.sliceAt t (ρ n) (ints kl lo) (ints kh hi) none).run E.P w = .ok v' w ∧ (SV.sub n k (cutLo lo) (cutHi hi xs.length - cutLo lo)).rel (cx B ρ st.hp w) v' := by
          intro heq
          rw [← heq] at ho
          have ho' : ∀ p ∈ cutOb lo hi (hiCap hi xs.length c), p := by
            cases hi with
            | none => exact ho
            | some _ => exact cutOb_mono ho h1
          obtain ⟨r1, r2, r3⟩ := run_sliceBounds (P := E.P) (w := w) (isSlice := true) (kl := kl) (kh := kh) ho' h1
          obtain ⟨c1, c2, c3⟩ := cutList_eq xs ho
          refine ⟨_, by rw [e3]; exact run_slice_of hd hi0 r1, hn, A, xs.length, c, _, _, e3, rfl, by omega, by omega, by omega, ?_⟩
          by_cases hc : c = cutLo lo
          · by_cases h00 : cutLo lo = 0
            · rw [if_pos hc, h00]; exact .inl (map_add0 _ _)
            · exact .inr (by omega)
          · rw [if_neg hc, hsz]; exact .inl rfl
        split at hop
        · cases hop
          refine ⟨ρ n, ?_, hs'⟩
          have r1 := (run_sliceBounds (P := E.P) (w := w) (isSlice := true) (len := xs.length) (cap := c) (kl := kl) (kh := kh) (lo := none) (hi := none) (by simp [cutOb]) h1).1
          rw [show (cx B ρ st.hp w).ρ n = ρ n from rfl, e3, run_slice_of hd hi0 r1]
          simp only [cutLo, cutHi, Nat.sub_zero, Nat.zero_mul]
          congr 2
          split
          · rfl
          · cases A <;> simp [Addr.add]
        · cases hop
          exact main rfl
      · cases hop
    · cases hop
  · rename_i e n k off len e1
    rw [e1] at hd
    have hd : E.P.underlying t = some (.slice e) := hd
    split at hop
    · rename_i k' xs hrow
      split at hop
      · rename_i hk
        obtain ⟨hk, rfl⟩ := hk
        obtain ⟨_, _, inf, z, hi0, hsz, _⟩ := hE.k hk
        obtain ⟨e', he⟩ := St.row_some hrow
        obtain ⟨A, c, e3, h1, h2, h3, h4⟩ := row_rel (h.h.obj n _ he)
        obtain ⟨hn, A0, m, cap, A', cc, e4, rfl, h5, hc1, hc2, h6⟩ := hs
        simp only at e4
        have e5 := e4
        rw [e3] at e4
        simp only [Value.slice.injEq] at e4
        obtain ⟨rfl, rfl, rfl⟩ := e4
        have main : ∀ (len' : Nat), (∀ p ∈ cutOb lo hi (hiCap hi len cc), p) → len' = cutHi hi len - cutLo lo → (match hi with | some _ => cutHi hi len ≤ xs.length - off | none => True) →
            ∃ v', (Instr.sliceAt t (.slice A' len cc) (ints kl lo) (ints kh hi) none).run E.P w = .ok v' w ∧ (SV.sub n k' (off + cutLo lo) len').rel (cx B ρ st.hp w) v' := by
          intro len' ho' hl hb
          obtain ⟨r1, r2, r3⟩ := run_sliceBounds (P := E.P) (w := w) (isSlice := true) (kl := kl) (kh := kh) ho' (by omega)
          refine ⟨_, run_slice_of hd hi0 r1, hn, A, xs.length, c, _, _, e3, by rw [hl], ?_, by omega, by omega, ?_⟩
          · cases hi with
            | none => simp only [hiCap] at r3; omega
            | some _ => simp only at hb; omega
          · by_cases hc : cc = cutLo lo
            · by_cases h00 : off + cutLo lo = 0
              · rw [if_pos hc]
                rcases h6 with rfl | h6
                · exact .inl (by rw [show off + cutLo lo = off by omega])
                · omega
              · exact .inr (by omega)
            · rw [if_neg hc]
              rcases h6 with rfl | h6
              · refine .inl ?_
                rw [Option.map_map, hsz]
                congr 1
                funext x
                simp only [Function.comp, addr_add_add, Nat.add_mul]
              · exact .inr (by omega)
        split at hop
        · cases hop
          exact main _ ho rfl trivial
        · rename_i hh
          cases hop
          have h7 := cutOb_mono ho (m := cc) (by omega)
          refine main _ h7 rfl ?_
          simp only [cutHi]
          cases lo with
          | none =>
            have : 0 ≤ hh ∧ hh ≤ ((xs.length - off : Nat) : Int) := ho _ (by simp [cutOb])
            omega
          | some l =>
            have : 0 ≤ l ∧ l ≤ hh ∧ hh ≤ ((xs.length - off : Nat) : Int) := ho _ (by simp [cutOb])
            omega
      · cases hop
    · cases hop
  · rename_i e c e1
    rw [e1] at hd
    have hd : E.P.underlying t = some (.slice e) := hd
    split at hop
    · rename_i k hk
      split at hop
      · rename_i hn
        cases hop
        obtain ⟨_, _, inf, z, hi0, hsz, _⟩ := hE.k hk
        have hs : v = c := hs
        rw [nilSlice_eq hn] at hs
        rw [hs]
        have ho' : ∀ p ∈ cutOb lo hi (hiCap hi 0 0), p := by
          cases hi <;> exact ho
        obtain ⟨r1, r2, r3⟩ := run_sliceBounds (P := E.P) (w := w) (isSlice := true) (kl := kl) (kh := kh) ho' (Nat.le_refl _)
        have h0 : hiCap hi 0 0 = 0 := by cases hi <;> rfl
        refine ⟨_, run_slice_of hd hi0 r1, ?_⟩
        show _ = c
        rw [nilSlice_eq hn]
        have e1 : cutLo lo = 0 := by omega
        have e2 : cutHi hi 0 = 0 := by omega
        rw [e1, e2]
        rfl
      · cases hop
    · cases hop
  · rename_i m e n e1
    rw [e1] at hd
    have hd : E.P.underlying t = some (.array m e) := hd
    split at hop
    · rename_i k xs hrow
      split at hop
      · rename_i hk
        cases hop
        obtain ⟨_, _, inf, z, hi0, hsz, _⟩ := hE.k hk
        obtain ⟨e', he⟩ := St.row_some hrow
        obtain ⟨A, c, e3, h1, h2, h3, h4⟩ := row_rel (h.h.obj n _ he)
        obtain ⟨hn, g, m', cap, e4, rfl, hcap'⟩ := hs
        simp only at e4
        have e5 := e4
        rw [e3] at e4
        simp only [Value.slice.injEq] at e4
        obtain ⟨rfl, rfl, rfl⟩ := e4
        have ho1 : ∀ p ∈ cutOb lo hi m, p := fun p hp => ho p (List.mem_append_left _ hp)
        have hxm : xs.length = m := ho _ (by simp)
        have hcap : hiCap hi m m = m := by cases hi <;> rfl
        have ho' : ∀ p ∈ cutOb lo hi (hiCap hi m m), p := by rw [hcap]; exact ho1
        obtain ⟨r1, r2, r3⟩ := run_sliceBounds (P := E.P) (w := w) (isSlice := false) (kl := kl) (kh := kh) ho' (Nat.le_refl _)
        rw [hcap] at r3
        refine ⟨_, by
          simp only [Instr.sliceAt, Sem.run_bind, run_underlying hd, Result.andThen_ok, Instr.sureAddr, Sem.run_pure, r1, run_sizeOf hi0]
          rfl, hn, _, _, _, _, _, e5, rfl, by omega, by omega, by omega, ?_⟩
        by_cases hc : m = cutLo lo
        · by_cases h00 : cutLo lo = 0
          · rw [if_pos hc, h00]; exact .inl (map_add0 _ _)
          · exact .inr (by omega)
        · rw [if_neg hc, hsz]; exact .inl rfl
      · cases hop
    · cases hop
  · cases hop

end

/-! ### Fields, functions, the rest -/
def fieldOf (E : Ty) (t f : Nat) : Option (Nat × Nat) := match E.d t with | .st l => l[f]? | _ => none

def SV.isAgg : SV → Bool
  | .dat k _ => k.isAgg
  | .agg _ => true
  | _ => false

def St.field (E : Ty) (t : Nat) (s : SV) (f : Nat) : PR :=
  match s.isAgg, fieldOf E t f, s.cells with
  | true, some (ft, off), some l => match E.sz ft with
    | some z => match ofCells E ft ((l.drop off).take z) with
      | some s => some ([], s)
      | none => none
    | none => none
  | _, _, _ => none

def St.fieldAddr (E : Ty) (t : Nat) (s : SV) (f : Nat) : PR :=
  match fieldOf E t f with
  | some (ft, off) => match E.sz ft with
    | some (_ + 1) => match s with
      | .ptr n o => some ([], .ptr n (o + off))
      | .oel n k i o => some ([], .oel n k i (o + off))
      | .adr k x => match E.k ft with
        | some kf => match unleaf kf (((leaves k x).drop off).take kf.sz) with
          | some (y, []) => some ([], .adr kf y)
          | _ => none
        | none => none
      | _ => none
    | _ => none
  | none => none

def St.nilCheck (s : SV) : PR :=
  match s with
  | .ptr n o => some ([], .ptr n o)
  | .rptr n => some ([], .rptr n)
  | .adr k x => some ([], .adr k x)
  | .oel n k i o => some ([], .oel n k i o)
  | .fn f c => some ([], .fn f c)
  | _ => none

/-- A truth value as data. -/
def SV.nb : SV → SV
  | .cst (.bool b) => .dat .bool b
  | s => s
theorem nb_rel {C : Cx} {s : SV} {v : Value} (h : s.rel C v) : s.nb.rel C v := by
  unfold SV.nb
  split
  · exact VRep_bool.2 h
  · exact h

def joinIf (c : Bool) (s t : SV) : PR :=
  match (s.ug.1, s.ug.2.nb), (t.ug.1, t.ug.2.nb) with
  | (oa, .dat ka x), (ob, .dat kb y) =>
    if h : kb = ka then some (oa.map (fun p => c = true → p) ++ ob.map (fun p => c = false → p), .dat ka (bif c then x else castT h y)) else none
  | _, _ => none

def St.un (op : UnOp) (s : SV) : PR :=
  match op, s with
  | .not, .dat .bool b => some ([], .dat .bool (!b))
  | .not, .cst (.bool b) => some ([], .cst (.bool (!b)))
  | .neg, .dat (.int k) n => some ([], .dat (.int k) (k.wrap (0 - n)))
  | .xor, .dat (.int k) n => some ([], .dat (.int k) (ibit .xor k (if k.signed then -1 else k.max) n))
  | _, _ => none

/-- A nil of the type. -/
def nilConst : TD → Value → Bool
  | .fn, .nilFunc => true
  | .ptr _, .pointer none => true
  | .sl _, .slice none _ _ => true
  | _, _ => false

/-- Nil, or not: of what is known. -/
def nilEq (d : TD) : SV → Option Bool
  | .cst c => if nilConst d c then some true else none
  | .fn _ _ => match d with | .fn => some false | _ => none
  | .ptr _ _ => match d with | .ptr _ => some false | _ => none
  | .rptr _ => match d with | .ptr _ => some false | _ => none
  | .adr _ _ => match d with | .ptr _ => some false | _ => none
  | .oel _ _ _ _ => match d with | .ptr _ => some false | _ => none
  | _ => none

def isBoolTD : TD → Bool
  | .bool => true
  | _ => false

def binNil (d : TD) (op : BinOp) (s : SV) (c : Value) : PR :=
  if nilConst d c then
    match op, nilEq d s with
    | .eql, some b => some ([], .cst (.bool b))
    | .neq, some b => some ([], .cst (.bool (!b)))
    | _, _ => none
  else none

def TD.conc : TD → Bool
  | .oth | .ifc => false
  | _ => true
theorem TD.conc_known {d : TD} (h : d.conc = true) : d.known = true := by cases d <;> first | rfl | cases h

/-- An interface held against nil. -/
def ifcNil (d : TD) (op : BinOp) (s : SV) (y : Operand) : PR :=
  match d, y, s, op with
  | .ifc, .const .nilIface, .ifc _ _, .eql => some ([], .cst (.bool false))
  | .ifc, .const .nilIface, .ifc _ _, .neq => some ([], .cst (.bool true))
  | .ifc, .const .nilIface, .cst .nilIface, .eql => some ([], .cst (.bool true))
  | .ifc, .const .nilIface, .cst .nilIface, .neq => some ([], .cst (.bool false))
  | _, _, _, _ => none

/-- A type that is asked for, and that it is. -/
def St.assert (E : Ty) (s : SV) (t : Nat) (ok : Bool) : PR :=
  match E.d t, s with
  | .ifc, _ => none
  | .oth, _ => none
  | _, .ifc u s => if u = t then some ([], if ok then .tup [s, .cst (.bool true)] else s) else none
  | _, _ => none

def St.bin (E : Ty) (ty : Nat) (op : BinOp) (s t : SV) : PR :=
  match op, s, t with
  | .shl, .dat (.int k) x, .dat (.int _) y => binShift .shl k x y
  | .shr, .dat (.int k) x, .dat (.int _) y => binShift .shr k x y
  | op, .dat (.int k) x, .dat (.int k') y => if k = k' then binInt op k x y else none
  | op, .dat .str x, .dat .str y => binStr op x y
  | .eql, .dat .bool x, .dat .bool y => if isBoolTD (E.d ty) then some ([], .dat .bool (decide (x = y))) else none
  | .neq, .dat .bool x, .dat .bool y => if isBoolTD (E.d ty) then some ([], .dat .bool (decide (x ≠ y))) else none
  | op, s, .cst c => binNil (E.d ty) op s c
  | _, _, _ => none

def addObs (o : List Prop) : PR → PR
  | some (p, s) => some (o ++ p, s)
  | none => none

/-- A builtin that changes nothing. -/
def St.op1Call (E : Ty) (st : St) (c : Call) : PR :=
  match c.callee, c.args.toList, c.argTypes.toList with
  | .builtin .len, [x], [t] => addObs (st.g x).1 (st.len E t (st.g x).2)
  | .builtin .min, [x, y], _ => match st.g x, st.g y with
    | (o1, .dat (.int k) a), (o2, .dat (.int k') b) => if k' = k then some (o1 ++ o2, .dat (.int k) (if b < a then b else a)) else none
    | _, _ => none
  | .builtin .max, [x, y], _ => match st.g x, st.g y with
    | (o1, .dat (.int k) a), (o2, .dat (.int k') b) => if k' = k then some (o1 ++ o2, .dat (.int k) (if a < b then b else a)) else none
    | _, _ => none
  | _, _, _ => none

/-- An operation that changes nothing: what it asks, and its value. -/
def St.op1 (E : Ty) (st : St) (o : Oper) : PR :=
  match o.op with
  | .move x | .assign x => some ([], st.ev x)
  | .pick c a b => match st.g c with
    | (o, .dat .bool c) => addObs o (joinIf c (st.ev a) (st.ev b))
    | (o, .cst (.bool true)) => some (o, st.ev a)
    | (o, .cst (.bool false)) => some (o, st.ev b)
    | _ => none
  | .binOp op ty x y _ => match ifcNil (E.d ty) op (st.g x).2 y with
    | some (_, s) => some ((st.g x).1, s)
    | none => addObs ((st.g x).1 ++ (st.g y).1) (St.bin E ty op (st.g x).2.nb (st.g y).2.nb)
  | .typeAssert x _ t ok => addObs (st.g x).1 (St.assert E (st.g x).2 t ok)
  | .unOp op _ x => addObs (st.g x).1 (St.un op (st.g x).2)
  | .convert src dst x => addObs (st.g x).1 (st.conv E src dst (st.g x).2)
  | .load t x => addObs (st.g x).1 (st.load E t (st.g x).2)
  | .indexAddr t x i => match st.g i with
    | (o, .dat (.int _) j) => addObs ((st.g x).1 ++ o) (st.indexAddr E t (st.g x).2 j)
    | _ => none
  | .index t x i => match st.g i with
    | (o, .dat (.int _) j) => addObs ((st.g x).1 ++ o) (St.index E t (st.g x).2 j)
    | _ => none
  | .slice t x lo hi none => match st.bnd lo, st.bnd hi with
    | some (o1, l), some (o2, h) => addObs ((st.g x).1 ++ (o1 ++ o2)) (st.slice E t (st.g x).2 l h)
    | _, _ => none
  | .field t x f => addObs (st.g x).1 (St.field E t (st.g x).2 f)
  | .fieldAddr t x f => addObs (st.g x).1 (St.fieldAddr E t (st.g x).2 f)
  | .nilCheck x => addObs (st.g x).1 (St.nilCheck (st.g x).2)
  | .extract x i => match st.g x with
    | (o, .tup l) => match l[i]? with
      | some s => some (o, s)
      | none => none
    | _ => none
  | .makeFunc (.func f) first cap => match first.toList with
    | [] => some ([], .fn f (cap.toList.map st.ev))
    | _ => none
  | .makeInterface t x => if (E.d t).conc then some ([], .ifc t (st.ev x)) else none
  | .call c => st.op1Call E c
  | _ => none

section
variable {E : Ty} {B : Base} {ρ : Nat → Value} {st : St} {a : Act} {fs : List Act} {w : World} {obs : List Prop} {s : SV} {v : Value} {C : Cx}

theorem addObs_eq {o : List Prop} {r : PR} {obs : List Prop} {s : SV} (h : addObs o r = some (obs, s)) : ∃ p, r = some (p, s) ∧ obs = o ++ p := by
  cases r with
  | none => cases h
  | some x => obtain ⟨p, s'⟩ := x; cases h; exact ⟨p, rfl, rfl⟩

theorem field_of (hE : E.Ok) {t f ft off : Nat} (h : fieldOf E t f = some (ft, off)) : ∃ fields : Array Field, E.P.underlying t = some (.struct fields) ∧ ∃ g, fields[f]? = some g ∧ g.type = ft ∧ g.offset = off := by
  have hd := hE.d t
  unfold fieldOf at h
  split at h
  · rename_i l e1
    rw [e1] at hd
    obtain ⟨h1, h2⟩ := hd
    refine ⟨_, h1, ?_⟩
    rw [← h2, List.getElem?_map] at h
    obtain ⟨g, hg, e⟩ := Option.map_eq_some_iff.1 h
    simp only [Prod.mk.injEq] at e
    exact ⟨g, by simpa using hg, e.1, e.2⟩
  · cases h

/-- A part of an aggregate. -/
theorem run_part (hE : E.Ok) {ft off z : Nat} {cs : Array Value} {s' : SV} {l : List SV} (hz : E.sz ft = some z) (hop : ofCells E ft ((l.drop off).take z) = some s') (hr : SV.rels C l cs.toList) :
    ∃ v', (part ft cs off).run E.P w = .ok v' w ∧ s'.rel C v' := by
  obtain ⟨h1, ⟨z', h2, h3⟩, h4, h5⟩ := ofCells_rel hE hop (rels_take z (rels_drop off hr))
  rw [hz] at h2
  cases h2
  obtain ⟨inf, hi, hsz, _⟩ := hE.sz hz
  unfold part
  simp only [Sem.run_bind, run_isAgg (hE.d ft) h1, Result.andThen_ok]
  cases hb : (E.d ft).isAgg with
  | true =>
    rw [hb] at h5
    refine ⟨_, by simp only [if_true, Sem.run_bind, run_sizeOf hi, Result.andThen_ok, Sem.run_pure]; rfl, ?_⟩
    simp only [if_true] at h5
    have : cs.extract off (off + inf.size) = ((cs.toList.drop off).take z).toArray := by
      rw [hsz]
      apply Array.ext'
      simp [Array.toList_extract, List.extract_eq_take_drop]
    rw [this]; exact h5
  | false =>
    rw [hb] at h5
    simp only [Bool.false_eq_true, if_false] at h5 ⊢
    have hl := h4 hb
    match hv : (cs.toList.drop off).take z, hl with
    | [c], _ =>
      rw [hv] at h5
      have : cs[off]? = some c := by
        have h6 : ((cs.toList.drop off).take z)[0]? = some c := by rw [hv]; rfl
        rw [List.getElem?_take] at h6
        split at h6
        · simpa using h6
        · cases h6
      rw [this]
      exact ⟨c, rfl, h5⟩

theorem isAgg_rel (h : s.isAgg = true) (hs : s.rel C v) : ∃ cs, v = .agg cs := by
  cases s <;> simp only [SV.isAgg, Bool.false_eq_true] at h
  case dat k x => obtain ⟨cs, _, h2⟩ := hs; rw [if_pos h] at h2; exact ⟨_, h2⟩
  case agg l => obtain ⟨vs, h2, _⟩ := hs; exact ⟨_, h2⟩

theorem field_sound (hE : E.Ok) {t f : Nat} {s' : SV} (hop : St.field E t s f = some (obs, s')) (hs : s.rel C v) :
    ∃ v', (Instr.field t v f).run E.P w = .ok v' w ∧ s'.rel C v' := by
  unfold St.field at hop
  split at hop
  · rename_i ft off l e0 e1 e2
    split at hop
    · rename_i z hz
      split at hop
      · rename_i s0 e3
        cases hop
        obtain ⟨fields, h1, g, h2, h3, h4⟩ := field_of hE e1
        obtain ⟨cs, rfl⟩ := isAgg_rel e0 hs
        have hr := cells_rel e2 hs
        obtain ⟨v', h5, h6⟩ := run_part (w := w) (cs := cs) hE hz e3 hr
        refine ⟨v', ?_, h6⟩
        simp only [Instr.field, Sem.run_bind, run_underlying h1, Result.andThen_ok, h2, asAgg, Sem.run_pure, h3, h4]
        exact h5
      · cases hop
    · cases hop
  · cases hop

theorem fieldAddr_sound (hE : E.Ok) {t f : Nat} {s' : SV} (hop : St.fieldAddr E t s f = some (obs, s')) (hs : s.rel C v) :
    ∃ v', (Instr.fieldAt t v f).run E.P w = .ok v' w ∧ s'.rel C v' := by
  unfold St.fieldAddr at hop
  split at hop
  · rename_i ft off e1
    obtain ⟨fields, h1, g, h2, h3, h4⟩ := field_of hE e1
    split at hop
    · rename_i z hz
      obtain ⟨inf, hi, hsz, _⟩ := hE.sz hz
      have place : ∀ ad : Addr, (Instr.fieldAt t (.pointer (some ad)) f).run E.P w = .ok (.pointer (some (ad.add off))) w := by
        intro ad
        simp only [Instr.fieldAt, Sem.run_bind, run_underlying h1, Result.andThen_ok, h2, Instr.sureAddr, Sem.run_pure, fieldPlace, h3, run_sizeOf hi, hsz, h4]
        simp
      split at hop
      · cases hop
        obtain ⟨hn, b, e2, rfl⟩ := hs
        exact ⟨_, place _, hn, b, e2, by rw [addr_add]⟩
      · cases hop
        obtain ⟨hn, g', m, cap, e2, h5, rfl⟩ := hs
        exact ⟨_, place _, hn, g', m, cap, e2, h5, by rw [addr_add_add, Nat.add_assoc]⟩
      · rename_i k x
        split at hop
        · rename_i kf hk
          split at hop
          · rename_i y hy
            cases hop
            obtain ⟨ad, cs, rfl, h5, h6, h7, h8⟩ := hs
            have hy2 := unleaf_all hy (rels_take kf.sz (rels_drop off (leaves_rel (C := C) h5)))
            refine ⟨_, place _, _, _, rfl, hy2, by rw [add_block]; exact h6, by rw [add_block]; exact h7, fun j u hu => ?_⟩
            rw [List.getElem?_take] at hu
            split at hu
            · rw [List.getElem?_drop] at hu
              rw [addr_add_add]
              exact h8 _ u hu
            · cases hu
          · cases hop
        · cases hop
      · cases hop
    · cases hop
  · cases hop

theorem nilCheck_sound {s' : SV} (hop : St.nilCheck s = some (obs, s')) (hs : s.rel C v) (x : Operand) (o : Oper) (ho : o.op = .nilCheck x) (hx : a.eval x = v) :
    (execOp a.eval o).run E.P w = .ok (.value v) w ∧ s'.rel C v := by
  unfold St.nilCheck at hop
  split at hop <;> cases hop
  · have hs' := hs
    obtain ⟨hn, b, _, rfl⟩ := hs
    exact ⟨by simp [execOp, ho, hx], hs'⟩
  · have hs' := hs
    obtain ⟨hn, g, m, cap, _, rfl, _⟩ := hs
    exact ⟨by simp [execOp, ho, hx], hs'⟩
  · have hs' := hs
    obtain ⟨ad, cs, rfl, _⟩ := hs
    exact ⟨by simp [execOp, ho, hx], hs'⟩
  · have hs' := hs
    obtain ⟨hn, g, m, cap, _, _, rfl⟩ := hs
    exact ⟨by simp [execOp, ho, hx], hs'⟩
  · have hs' := hs
    obtain ⟨vs, rfl, _⟩ := hs
    exact ⟨by simp [execOp, ho, hx], hs'⟩

theorem nil_fn {t : Nat} {p r : Array TypeId} {vv : Bool} (hd : E.P.underlying t = some (.func p r vv)) (d : Nat) (f : Fn) (a b : Array Value) : (Op.equalIn (d + 1) t (.func f a b) .nilFunc).run E.P w = .ok false w := by
  simp [Op.equalIn, run_underlying hd]
theorem nil_fn0 {t : Nat} {p r : Array TypeId} {vv : Bool} (hd : E.P.underlying t = some (.func p r vv)) (d : Nat) : (Op.equalIn (d + 1) t .nilFunc .nilFunc).run E.P w = .ok true w := by
  simp [Op.equalIn, run_underlying hd]
theorem nil_ptr {t e : Nat} (hd : E.P.underlying t = some (.pointer e)) (d : Nat) (a : Addr) : (Op.equalIn (d + 1) t (.pointer (some a)) (.pointer none)).run E.P w = .ok false w := by
  simp [Op.equalIn, run_underlying hd]
theorem nil_ptr0 {t e : Nat} (hd : E.P.underlying t = some (.pointer e)) (d : Nat) : (Op.equalIn (d + 1) t (.pointer none) (.pointer none)).run E.P w = .ok true w := by
  simp [Op.equalIn, run_underlying hd]
theorem nil_sl0 {t e : Nat} (hd : E.P.underlying t = some (.slice e)) (d : Nat) (l c l' c' : Nat) : (Op.equalIn (d + 1) t (.slice none l c) (.slice none l' c')).run E.P w = .ok true w := by
  simp [Op.equalIn, run_underlying hd]

theorem nilEq_sound {d : TD} {c : Value} {t : Nat} (hd : d.ok E.P t) (hc : nilConst d c = true) {b : Bool} (hb : nilEq d s = some b) (hs : s.rel C v) :
    (binOp .eql t v c).run E.P w = .ok (.bool b) w ∧ (binOp .neq t v c).run E.P w = .ok (.bool (!b)) w ∧ (∀ cs, v ≠ .agg cs) ∧ v ≠ .nilIface := by
  unfold nilConst at hc
  split at hc
  · -- functions
    obtain ⟨p, r, vv, hd⟩ := hd
    cases s <;> simp only [nilEq] at hb <;> try (cases hb; done)
    case cst c' =>
      split at hb
      · rename_i h1
        cases hb
        have hs : v = c' := hs
        subst hs
        cases v <;> simp only [nilConst, Bool.false_eq_true] at h1
        have q : (Op.equal t .nilFunc .nilFunc).run E.P w = .ok true w := nil_fn0 hd 9999
        exact ⟨by simp only [binOp, Sem.run_bind, q, Result.andThen_ok, Sem.run_pure], by simp only [binOp, Sem.run_bind, q, Result.andThen_ok, Sem.run_pure], by simp, by simp⟩
      · cases hb
    case fn f cap =>
      cases hb
      obtain ⟨vs, rfl, _⟩ := hs
      have q : (Op.equal t (.func (.func f) #[] vs.toArray) .nilFunc).run E.P w = .ok false w := nil_fn hd 9999 _ _ _
      exact ⟨by simp only [binOp, Sem.run_bind, q, Result.andThen_ok, Sem.run_pure], by simp only [binOp, Sem.run_bind, q, Result.andThen_ok, Sem.run_pure], by simp, by simp⟩
  · -- pointers
    rename_i e
    have hd : E.P.underlying t = some (.pointer e) := hd
    have some_ : ∀ ad : Addr, (binOp .eql t (.pointer (some ad)) (.pointer none)).run E.P w = .ok (.bool false) w ∧ (binOp .neq t (.pointer (some ad)) (.pointer none)).run E.P w = .ok (.bool (!false)) w := fun ad => by
      have q : (Op.equal t (.pointer (some ad)) (.pointer none)).run E.P w = .ok false w := nil_ptr hd 9999 ad
      exact ⟨by simp only [binOp, Sem.run_bind, q, Result.andThen_ok, Sem.run_pure], by simp only [binOp, Sem.run_bind, q, Result.andThen_ok, Sem.run_pure]⟩
    cases s <;> simp only [nilEq] at hb <;> try (cases hb; done)
    case cst c' =>
      split at hb
      · rename_i h1
        cases hb
        have hs : v = c' := hs
        subst hs
        cases v <;> simp only [nilConst, Bool.false_eq_true] at h1
        case pointer a =>
          cases a <;> simp only [Bool.false_eq_true] at h1
          have q : (Op.equal t (.pointer none) (.pointer none)).run E.P w = .ok true w := nil_ptr0 hd 9999
          exact ⟨by simp only [binOp, Sem.run_bind, q, Result.andThen_ok, Sem.run_pure], by simp only [binOp, Sem.run_bind, q, Result.andThen_ok, Sem.run_pure], by simp, by simp⟩
      · cases hb
    case ptr n o => cases hb; obtain ⟨_, b, _, rfl⟩ := hs; exact ⟨(some_ _).1, (some_ _).2, by simp, by simp⟩
    case rptr n => cases hb; obtain ⟨_, g, m, cap, _, rfl, _⟩ := hs; exact ⟨(some_ _).1, (some_ _).2, by simp, by simp⟩
    case adr k x => cases hb; obtain ⟨ad, cs, rfl, _⟩ := hs; exact ⟨(some_ _).1, (some_ _).2, by simp, by simp⟩
    case oel n k i o => cases hb; obtain ⟨_, g, m, cap, _, _, rfl⟩ := hs; exact ⟨(some_ _).1, (some_ _).2, by simp, by simp⟩
  · -- slices
    rename_i e l c2
    have hd : E.P.underlying t = some (.slice e) := hd
    cases s <;> simp only [nilEq] at hb <;> try (cases hb; done)
    case cst c' =>
      split at hb
      · rename_i h1
        cases hb
        have hs : v = c' := hs
        subst hs
        cases v <;> simp only [nilConst, Bool.false_eq_true] at h1
        case slice a l' c =>
          cases a <;> simp only [Bool.false_eq_true] at h1
          have q : (Op.equal t (.slice none l' c) (.slice none l c2)).run E.P w = .ok true w := nil_sl0 hd 9999 _ _ _ _
          exact ⟨by simp only [binOp, Sem.run_bind, q, Result.andThen_ok, Sem.run_pure], by simp only [binOp, Sem.run_bind, q, Result.andThen_ok, Sem.run_pure], by simp, by simp⟩
      · cases hb
  · cases hc

theorem bin_sound (hE : E.Ok) {op : BinOp} {t t' : SV} {u : Value} {ty : Nat} (hop : St.bin E ty op s t = some (obs, t')) (ho : ∀ p ∈ obs, p) (hs : s.rel C v) (ht : t.rel C u) (x y : Operand) :
    ∃ v', (do eqGuard op ty x y v u; binOp op ty v u).run E.P w = .ok v' w ∧ t'.rel C v' := by
  have eg : ∀ {v u : Value}, (∀ cs, v ≠ .agg cs) → v ≠ .nilIface → (eqGuard op ty x y v u).run E.P w = .ok () w := by
    intro v u h1 h2
    unfold eqGuard
    cases op <;> first
      | rfl
      | (cases v <;> first | rfl | (exact absurd rfl (h1 _)) | (exact absurd rfl h2))
  have main : ∀ {v u : Value}, (∀ cs, v ≠ .agg cs) → v ≠ .nilIface → (∃ v', (binOp op ty v u).run E.P w = .ok v' w ∧ t'.rel C v') → ∃ v', (do eqGuard op ty x y v u; binOp op ty v u).run E.P w = .ok v' w ∧ t'.rel C v' := by
    intro v u h1 h2 h3
    obtain ⟨v', h4, h5⟩ := h3
    exact ⟨v', by simp only [Sem.run_bind, eg h1 h2, Result.andThen_ok]; exact h4, h5⟩
  unfold St.bin at hop
  split at hop
  · obtain ⟨rfl, hx⟩ := VRep_int.1 hs
    obtain ⟨rfl, _⟩ := VRep_int.1 ht
    exact main (by simp) (by simp) (binShift_sound hop ho hx ty)
  · obtain ⟨rfl, hx⟩ := VRep_int.1 hs
    obtain ⟨rfl, _⟩ := VRep_int.1 ht
    exact main (by simp) (by simp) (binShift_sound hop ho hx ty)
  · obtain ⟨rfl, hx⟩ := VRep_int.1 hs
    obtain ⟨rfl, _⟩ := VRep_int.1 ht
    split at hop
    · rename_i e
      subst e
      exact main (by simp) (by simp) (binInt_sound hop ho hx ty)
    · cases hop
  · obtain ⟨s1, rfl, rfl, _⟩ := VRep_str.1 hs
    obtain ⟨s2, rfl, rfl, _⟩ := VRep_str.1 ht
    exact main (by simp) (by simp) (binStr_sound hop ho ty)
  · have h1 := VRep_bool.1 hs
    have h2 := VRep_bool.1 ht
    subst h1 h2
    split at hop
    · rename_i hb
      cases hop
      have hd := hE.d ty
      cases hq : E.d ty <;> rw [hq] at hb <;> simp only [isBoolTD, Bool.false_eq_true] at hb
      rw [hq] at hd
      exact main (by simp) (by simp) ⟨_, run_eql_bool w ty _ _ hd, VRep_bool.2 rfl⟩
    · cases hop
  · have h1 := VRep_bool.1 hs
    have h2 := VRep_bool.1 ht
    subst h1 h2
    split at hop
    · rename_i hb
      cases hop
      have hd := hE.d ty
      cases hq : E.d ty <;> rw [hq] at hb <;> simp only [isBoolTD, Bool.false_eq_true] at hb
      rw [hq] at hd
      exact main (by simp) (by simp) ⟨_, run_neq_bool w ty _ _ hd, VRep_bool.2 (by congr 1; rw [Bool.eq_iff_iff]; simp)⟩
    · cases hop
  · rename_i c
    have hu : u = c := ht
    subst hu
    unfold binNil at hop
    split at hop
    · rename_i hc
      split at hop
      · rename_i b hb
        cases hop
        obtain ⟨h1, h2, h3, h4⟩ := nilEq_sound (w := w) (hE.d ty) hc hb hs
        exact main h3 h4 ⟨.bool b, h1, rfl⟩
      · rename_i b hb
        cases hop
        obtain ⟨h1, h2, h3, h4⟩ := nilEq_sound (w := w) (hE.d ty) hc hb hs
        exact main h3 h4 ⟨.bool (!b), h2, rfl⟩
      · cases hop
    · cases hop
  · cases hop

theorem nil_if {t u : Nat} {m : Array (String × TypeId)} (hd : E.P.underlying t = some (.interface m)) (d : Nat) (v : Value) : (Op.equalIn (d + 1) t (.iface u v) .nilIface).run E.P w = .ok false w := by
  simp [Op.equalIn, run_underlying hd]
theorem nil_if0 {t : Nat} {m : Array (String × TypeId)} (hd : E.P.underlying t = some (.interface m)) (d : Nat) : (Op.equalIn (d + 1) t .nilIface .nilIface).run E.P w = .ok true w := by
  simp [Op.equalIn, run_underlying hd]

theorem ifcNil_sound (hE : E.Ok) {op : BinOp} {t' : SV} {ty : Nat} {x y : Operand} (hop : ifcNil (E.d ty) op s y = some (obs, t')) (hs : s.rel C v) :
    ∃ v', (do eqGuard op ty x y v (a.eval y); binOp op ty v (a.eval y)).run E.P w = .ok v' w ∧ t'.rel C v' := by
  have hd := hE.d ty
  unfold ifcNil at hop
  split at hop
  · rename_i t0 s0 e1
    rw [e1] at hd
    obtain ⟨m, hd⟩ := hd
    obtain ⟨u, rfl, _⟩ := hs
    cases hop
    have q : (Op.equal ty (.iface t0 u) .nilIface).run E.P w = .ok false w := nil_if hd 9999 u
    exact ⟨.bool false, by simp only [Act.eval, eqGuard, binOp, Sem.run_bind, Sem.run_pure]; simp only [Bool.not_true, Bool.not_false, Bool.false_eq_true, if_false, Bool.true_or, Bool.or_true, if_true, ite_true, Sem.run_pure, Result.andThen_ok, Sem.run_bind, q], rfl⟩
  · rename_i t0 s0 e1
    rw [e1] at hd
    obtain ⟨m, hd⟩ := hd
    obtain ⟨u, rfl, _⟩ := hs
    cases hop
    have q : (Op.equal ty (.iface t0 u) .nilIface).run E.P w = .ok false w := nil_if hd 9999 u
    exact ⟨.bool true, by simp only [Act.eval, eqGuard, binOp, Sem.run_bind, Sem.run_pure]; simp only [Bool.not_true, Bool.not_false, Bool.false_eq_true, if_false, Bool.true_or, Bool.or_true, if_true, ite_true, Sem.run_pure, Result.andThen_ok, Sem.run_bind, q], rfl⟩
  · rename_i e1
    rw [e1] at hd
    obtain ⟨m, hd⟩ := hd
    have hs : v = _ := hs
    subst hs
    cases hop
    have q : (Op.equal ty .nilIface .nilIface).run E.P w = .ok true w := nil_if0 hd 9999
    exact ⟨.bool true, by simp only [Act.eval, eqGuard, binOp, Sem.run_bind, Sem.run_pure]; simp only [Bool.not_true, Bool.not_false, Bool.false_eq_true, if_false, Bool.true_or, Bool.or_true, if_true, ite_true, Sem.run_pure, Result.andThen_ok, Sem.run_bind, q], rfl⟩
  · rename_i e1
    rw [e1] at hd
    obtain ⟨m, hd⟩ := hd
    have hs : v = _ := hs
    subst hs
    cases hop
    have q : (Op.equal ty .nilIface .nilIface).run E.P w = .ok true w := nil_if0 hd 9999
    exact ⟨.bool false, by simp only [Act.eval, eqGuard, binOp, Sem.run_bind, Sem.run_pure]; simp only [Bool.not_true, Bool.not_false, Bool.false_eq_true, if_false, Bool.true_or, Bool.or_true, if_true, ite_true, Sem.run_pure, Result.andThen_ok, Sem.run_bind, q], rfl⟩
  · cases hop

theorem assert_sound (hE : E.Ok) {s' : SV} {t xt : Nat} {ok : Bool} (hop : St.assert E s t ok = some (obs, s')) (hs : s.rel C v) : ∃ v', (Instr.typeAssert v xt t ok).run E.P w = .ok v' w ∧ s'.rel C v' := by
  have hd := hE.d t
  unfold St.assert at hop
  split at hop
  · cases hop
  · cases hop
  · rename_i u s0 h1 h2
    split at hop
    · rename_i e
      subst e
      cases hop
      obtain ⟨v0, rfl, h0⟩ := hs
      obtain ⟨un, hu⟩ : ∃ un, E.P.underlying u = some un := by
        cases hq : E.d u <;> rw [hq] at hd
        case oth => exact absurd hq h2
        case st fs => exact ⟨_, hd.1⟩
        case fn => obtain ⟨p, r, v, h⟩ := hd; exact ⟨_, h⟩
        case ifc => obtain ⟨m, h⟩ := hd; exact ⟨_, h⟩
        all_goals exact ⟨_, hd⟩
      have hni : ∀ m, un ≠ .interface m := by
        rintro m rfl
        cases hq : E.d u <;> rw [hq] at hd
        case oth => exact absurd hq h2
        case ifc => exact absurd hq h1
        case st fs => have := hd.1; rw [hu] at this; cases this
        case fn => obtain ⟨p, r, v, h⟩ := hd; rw [hu] at h; cases h
        all_goals (have hd : E.P.underlying u = _ := hd; rw [hu] at hd; cases hd)
      have hrun : (Instr.typeAssert (.iface u v0) xt u ok).run E.P w = .ok (if ok then .tuple #[v0, .bool true] else v0) w := by
        unfold Instr.typeAssert
        simp only [Sem.run_bind, run_underlying hu, Result.andThen_ok]
        cases un <;> first | (exact absurd rfl (hni _)) | (simp)
      refine ⟨_, hrun, ?_⟩
      cases ok
      · exact h0
      · exact ⟨[v0, .bool true], rfl, v0, _, rfl, h0, .bool true, [], rfl, rfl, rfl⟩
    · cases hop
  · cases hop

theorem joinIf_sound {c : Bool} {t t' : SV} {u : Value} (hop : joinIf c s t = some (obs, t')) (ho : ∀ p ∈ obs, p) (hs : s.rel C v) (ht : t.rel C u) : t'.rel C (if c then v else u) := by
  unfold joinIf at hop
  split at hop
  · rename_i oa ka x ob kb y e1 e2
    split at hop
    · rename_i h
      cases h
      cases hop
      cases c with
      | true =>
        have h1 := nb_rel (ug_rel hs (fun p hp => by
          have : p ∈ oa := by have := congrArg Prod.fst e1; dsimp only at this; rw [← this]; exact hp
          exact ho (true = true → p) (List.mem_append_left _ (List.mem_map.2 ⟨p, this, rfl⟩)) rfl))
        have := congrArg Prod.snd e1
        dsimp only at this
        rw [this] at h1
        exact h1
      | false =>
        have h1 := nb_rel (ug_rel ht (fun p hp => by
          have : p ∈ ob := by have := congrArg Prod.fst e2; dsimp only at this; rw [← this]; exact hp
          exact ho (false = false → p) (List.mem_append_right _ (List.mem_map.2 ⟨p, this, rfl⟩)) rfl))
        have := congrArg Prod.snd e2
        dsimp only at this
        rw [this] at h1
        exact h1
    · cases hop
  · cases hop

theorem un_sound {op : UnOp} {s' : SV} (hop : St.un op s = some (obs, s')) (hs : s.rel C v) : ∃ v', (Op.unary op v).run E.P w = .ok v' w ∧ s'.rel C v' := by
  unfold St.un at hop
  split at hop
  · cases hop
    have := VRep_bool.1 hs
    subst this
    exact ⟨_, rfl, VRep_bool.2 rfl⟩
  · cases hop
    have hs : v = _ := hs
    subst hs
    exact ⟨_, rfl, rfl⟩
  · cases hop
    obtain ⟨rfl, _⟩ := VRep_int.1 hs
    exact ⟨_, rfl, VRep_int.2 ⟨rfl, wrap_InR _ _⟩⟩
  · cases hop
    obtain ⟨rfl, _⟩ := VRep_int.1 hs
    exact ⟨_, rfl, VRep_int.2 ⟨rfl, wrap_InR _ _⟩⟩
  · cases hop

theorem bnd_sound (h : StRel B ρ st a fs w) {x : Option Operand} {o : List Prop} {l : Option Int} (hb : st.bnd x = some (o, l)) (ho : ∀ p ∈ o, p) : ∃ k, x.map a.eval = ints k l := by
  unfold St.bnd at hb
  split at hb
  · cases hb; exact ⟨.i64, rfl⟩
  · rename_i x
    split at hb
    · rename_i o' k n e
      cases hb
      have h1 := g_rel h x (by rw [e]; exact ho)
      rw [e] at h1
      obtain ⟨h2, _⟩ := VRep_int.1 h1
      exact ⟨k, by simp [ints, h2]⟩
    · cases hb

theorem evs_rel (h : StRel B ρ st a fs w) : ∀ l : List Operand, SV.rels (cx B ρ st.hp w) (l.map st.ev) (l.map a.eval)
  | [] => rfl
  | x :: l => ⟨_, _, rfl, ev_rel h x, evs_rel h l⟩

theorem op1_sound (hE : E.Ok) (h : StRel B ρ st a fs w) {o : Oper} (hop : st.op1 E o = some (obs, s)) (ho : ∀ p ∈ obs, p) :
    ∃ v, (execOp a.eval o).run E.P w = .ok (.value v) w ∧ s.rel (cx B ρ st.hp w) v := by
  have val : ∀ {m : Sem Value}, (∃ v, m.run E.P w = .ok v w ∧ s.rel (cx B ρ st.hp w) v) → ∃ v, (do pure (Next.value (← m)) : Sem Next).run E.P w = .ok (.value v) w ∧ s.rel (cx B ρ st.hp w) v := by
    intro m ⟨v, h1, h2⟩
    exact ⟨v, by simp only [Sem.run_bind, h1, Result.andThen_ok, Sem.run_pure], h2⟩
  unfold St.op1 at hop
  unfold execOp
  split at hop
  · rename_i x e; rw [e]; cases hop; exact ⟨_, rfl, ev_rel h x⟩
  · rename_i x e; rw [e]; cases hop; exact ⟨_, rfl, ev_rel h x⟩
  · rename_i c a' b e
    rw [e]
    dsimp only
    split at hop
    · rename_i o' c' e1
      obtain ⟨p, h1, rfl⟩ := addObs_eq hop
      have h2 := g_rel h c (by rw [e1]; exact fun p hp => ho p (List.mem_append_left _ hp))
      rw [e1] at h2
      have h3 := VRep_bool.1 h2
      refine ⟨_, by simp [h3]; rfl, joinIf_sound h1 (fun p hp => ho p (List.mem_append_right _ hp)) (ev_rel h a') (ev_rel h b)⟩
    · rename_i o' e1
      cases hop
      have h2 := g_rel h c (by rw [e1]; exact ho)
      rw [e1] at h2
      have h2 : a.eval c = _ := h2
      refine ⟨_, by simp [h2]; rfl, ev_rel h a'⟩
    · rename_i o' e1
      cases hop
      have h2 := g_rel h c (by rw [e1]; exact ho)
      rw [e1] at h2
      have h2 : a.eval c = _ := h2
      refine ⟨_, by simp [h2]; rfl, ev_rel h b⟩
    · cases hop
  · rename_i op ty x y _ e
    rw [e]
    dsimp only
    split at hop
    · rename_i o' s' h1
      cases hop
      exact val (ifcNil_sound hE h1 (g_rel h x ho))
    obtain ⟨p, h1, rfl⟩ := addObs_eq hop
    exact val (bin_sound hE h1 (fun p hp => ho p (List.mem_append_right _ hp)) (nb_rel (g_rel h x (fun p hp => ho p (List.mem_append_left _ (List.mem_append_left _ hp))))) (nb_rel (g_rel h y (fun p hp => ho p (List.mem_append_left _ (List.mem_append_right _ hp))))) x y)
  · rename_i x _ t ok e
    rw [e]
    dsimp only
    obtain ⟨p, h1, rfl⟩ := addObs_eq hop
    exact val (assert_sound hE h1 (g_rel h x (fun p hp => ho p (List.mem_append_left _ hp))))
  · rename_i op _ x e
    rw [e]
    dsimp only
    obtain ⟨p, h1, rfl⟩ := addObs_eq hop
    exact val (un_sound h1 (g_rel h x (fun p hp => ho p (List.mem_append_left _ hp))))
  · rename_i src dst x e
    rw [e]
    dsimp only
    obtain ⟨p, h1, rfl⟩ := addObs_eq hop
    exact val (conv_sound hE h h1 (fun p hp => ho p (List.mem_append_right _ hp)) (g_rel h x (fun p hp => ho p (List.mem_append_left _ hp))))
  · rename_i t x e
    rw [e]
    dsimp only
    obtain ⟨p, h1, rfl⟩ := addObs_eq hop
    exact val (load_sound hE h h1 (g_rel h x (fun p hp => ho p (List.mem_append_left _ hp))))
  · rename_i t x i e
    rw [e]
    dsimp only
    split at hop
    · rename_i o' k j e1
      obtain ⟨p, h1, rfl⟩ := addObs_eq hop
      have h2 := g_rel h i (by rw [e1]; exact fun p hp => ho p (List.mem_append_left _ (List.mem_append_right _ hp)))
      rw [e1] at h2
      obtain ⟨h3, _⟩ := VRep_int.1 h2
      rw [h3]
      exact val (indexAddr_sound hE h h1 (fun p hp => ho p (List.mem_append_right _ hp)) (g_rel h x (fun p hp => ho p (List.mem_append_left _ (List.mem_append_left _ hp)))))
    · cases hop
  · rename_i t x i e
    rw [e]
    dsimp only
    split at hop
    · rename_i o' k j e1
      obtain ⟨p, h1, rfl⟩ := addObs_eq hop
      have h2 := g_rel h i (by rw [e1]; exact fun p hp => ho p (List.mem_append_left _ (List.mem_append_right _ hp)))
      rw [e1] at h2
      obtain ⟨h3, _⟩ := VRep_int.1 h2
      rw [h3]
      exact val (index_sound hE h1 (fun p hp => ho p (List.mem_append_right _ hp)) (g_rel h x (fun p hp => ho p (List.mem_append_left _ (List.mem_append_left _ hp)))))
    · cases hop
  · rename_i t x lo hi e
    rw [e]
    dsimp only
    split at hop
    · rename_i o1 l o2 hh e1 e2
      obtain ⟨p, h1, rfl⟩ := addObs_eq hop
      obtain ⟨kl, h2⟩ := bnd_sound h e1 (fun p hp => ho p (List.mem_append_left _ (List.mem_append_right _ (List.mem_append_left _ hp))))
      obtain ⟨kh, h3⟩ := bnd_sound h e2 (fun p hp => ho p (List.mem_append_left _ (List.mem_append_right _ (List.mem_append_right _ hp))))
      rw [h2, h3]
      exact val (slice_sound hE h h1 (fun p hp => ho p (List.mem_append_right _ hp)) (g_rel h x (fun p hp => ho p (List.mem_append_left _ (List.mem_append_left _ hp)))))
    · cases hop
  · rename_i t x f e
    rw [e]
    dsimp only
    obtain ⟨p, h1, rfl⟩ := addObs_eq hop
    exact val (field_sound hE h1 (g_rel h x (fun p hp => ho p (List.mem_append_left _ hp))))
  · rename_i t x f e
    rw [e]
    dsimp only
    obtain ⟨p, h1, rfl⟩ := addObs_eq hop
    exact val (fieldAddr_sound hE h1 (g_rel h x (fun p hp => ho p (List.mem_append_left _ hp))))
  · rename_i x e
    obtain ⟨p, h1, rfl⟩ := addObs_eq hop
    have := nilCheck_sound (E := E) (w := w) h1 (g_rel h x (fun p hp => ho p (List.mem_append_left _ hp))) x o e rfl
    unfold execOp at this
    exact ⟨_, this⟩
  · rename_i x i e
    rw [e]
    dsimp only
    split at hop
    · rename_i o' l e1
      split at hop
      · rename_i s0 e2
        cases hop
        have h2 := g_rel h x (by rw [e1]; exact ho)
        rw [e1] at h2
        obtain ⟨vs, h3, h4⟩ := h2
        obtain ⟨v, h5, h6⟩ := rels_get h4 e2
        exact val ⟨v, by rw [h3]; simp [Instr.extract, h5], h6⟩
      · cases hop
    · cases hop
  · rename_i f first cap e
    rw [e]
    dsimp only
    split at hop
    · rename_i hf
      cases hop
      have hf : first = #[] := by simpa using hf
      subst hf
      refine val ⟨_, rfl, _, ?_, evs_rel h cap.toList⟩
      rw [← List.map_toArray, Array.toArray_toList, List.map_toArray, List.map_nil]
    · cases hop
  · rename_i t x e
    rw [e]
    dsimp only
    split at hop
    · rename_i hk
      cases hop
      have hd := hE.d t
      obtain ⟨u, hu⟩ := TD.known_some hd (TD.conc_known hk)
      refine val ⟨.iface t (a.eval x), ?_, _, rfl, ev_rel h x⟩
      simp only [Instr.makeInterface, Sem.run_bind, run_underlying hu, Result.andThen_ok]
      have : ∀ ms, u ≠ .interface ms := by
        intro ms e'
        subst e'
        cases hq : E.d t <;> rw [hq] at hd hk <;> simp only [TD.conc, Bool.false_eq_true] at hk
        case st l => have := hd.1; rw [hu] at this; cases this
        case fn => obtain ⟨p, r, vv, this⟩ := hd; rw [hu] at this; cases this
        all_goals (have hd : E.P.underlying t = _ := hd; rw [hu] at hd; cases hd)
      cases u <;> first | rfl | exact absurd rfl (this _)
    · cases hop
  · rename_i c e
    rw [e]
    dsimp only
    unfold St.op1Call at hop
    split at hop
    · rename_i x t e1 e2 e3
      obtain ⟨p, h1, rfl⟩ := addObs_eq hop
      have e2 : c.args = #[x] := by apply Array.ext'; simpa using e2
      have e3 : c.argTypes = #[t] := by apply Array.ext'; simpa using e3
      obtain ⟨v', h2, h3⟩ := len_sound (ty := o.type) hE h h1 (g_rel h x (fun p hp => ho p (List.mem_append_left _ hp)))
      refine ⟨v', ?_, h3⟩
      simp only [resolve, e1, e2, e3, Sem.run_bind, Sem.run_pure, Result.andThen_ok, invoke, builtin, List.map_toArray, List.map_cons, List.map_nil, h2]
    · rename_i _ x y e1 e2
      split at hop
      · rename_i o1 k n o2 k' m e3 e4
        split at hop
        · rename_i hk
          subst hk
          cases hop
          have h1 := g_rel h x (by rw [e3]; exact fun p hp => ho p (List.mem_append_left _ hp))
          have h2 := g_rel h y (by rw [e4]; exact fun p hp => ho p (List.mem_append_right _ hp))
          rw [e3] at h1
          rw [e4] at h2
          obtain ⟨h3, h5⟩ := VRep_int.1 h1
          obtain ⟨h4, h6⟩ := VRep_int.1 h2
          have e2 : c.args = #[x, y] := by apply Array.ext'; simpa using e2
          refine ⟨_, by simp only [resolve, e1, e2, Sem.run_bind, Sem.run_pure, Result.andThen_ok, invoke, builtin, List.map_toArray, List.map_cons, List.map_nil, h3, h4, run_min_int2], VRep_int.2 ⟨rfl, ?_⟩⟩
          split
          · exact h6
          · exact h5
        · cases hop
      · cases hop
    · rename_i _ x y e1 e2
      split at hop
      · rename_i o1 k n o2 k' m e3 e4
        split at hop
        · rename_i hk
          subst hk
          cases hop
          have h1 := g_rel h x (by rw [e3]; exact fun p hp => ho p (List.mem_append_left _ hp))
          have h2 := g_rel h y (by rw [e4]; exact fun p hp => ho p (List.mem_append_right _ hp))
          rw [e3] at h1
          rw [e4] at h2
          obtain ⟨h3, h5⟩ := VRep_int.1 h1
          obtain ⟨h4, h6⟩ := VRep_int.1 h2
          have e2 : c.args = #[x, y] := by apply Array.ext'; simpa using e2
          refine ⟨_, by simp only [resolve, e1, e2, Sem.run_bind, Sem.run_pure, Result.andThen_ok, invoke, builtin, List.map_toArray, List.map_cons, List.map_nil, h3, h4, run_max_int2], VRep_int.2 ⟨rfl, ?_⟩⟩
          split
          · exact h6
          · exact h5
        · cases hop
      · cases hop
    · cases hop
  · cases hop
end
end Go.Vc
