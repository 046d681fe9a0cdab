/- Texts of a verified walk, led together: Op1b, Frz, Eff, Eff2, Eff3, Str. -/
import Derived.Test.YtcaekpbmmbfeiaaDoorZV01
import Derived.Laws.Small
import Derived.Laws.OwnMore
import Derived.Laws.NewFold
import Derived.Laws.IdiomStrings
import Derived.Lib.AppendStr
set_option linter.unusedVariables false
set_option linter.unusedSimpArgs false
section
/- Slicing, fields, and one function for all operations that change nothing. -/
namespace Go.Vc
open Go.RowKit

/-- A bound of a slice expression. -/
def St.bnd (st : St) : Option Operand → Option (List Prop × Option Int)
  | none => some ([], none)
  | some x => match st.g x with
    | (o, .dat (.int _) n) => some (o, some n)
    | _ => none

def cutList {α : Type} (xs : List α) (lo hi : Option Int) : List α :=
  match lo, hi with
  | none, none => xs
  | some l, none => xs.drop l.toNat
  | none, some h => xs.take h.toNat
  | some l, some h => (xs.take h.toNat).drop l.toNat

/-- What a slice expression asks: the bounds within n. -/
def cutOb (lo hi : Option Int) (n : Nat) : List Prop :=
  match lo, hi with
  | none, none => []
  | some l, none => [0 ≤ l ∧ l ≤ n]
  | none, some h => [0 ≤ h ∧ h ≤ n]
  | some l, some h => [0 ≤ l ∧ l ≤ h ∧ h ≤ n]

def hiCap (hi : Option Int) (len cap : Nat) : Nat := match hi with | some _ => cap | none => len
def cutLo (lo : Option Int) : Nat := match lo with | some l => l.toNat | none => 0
def cutHi (hi : Option Int) (n : Nat) : Nat := match hi with | some h => h.toNat | none => n

/-- xs[lo:hi], with what its capacity allows (m). -/
def St.slice (E : Ty) (st : St) (t : Nat) (s : SV) (lo hi : Option Int) : PR :=
  match E.d t, s with
  | .str, .dat .str l => some (cutOb lo hi l.length, .dat .str (cutList l lo hi))
  | .sl e, .dat (.sl k) xs => if E.k e = some k then some (cutOb lo hi xs.length, .dat (.sl k) (cutList xs lo hi)) else none
  | .sl e, .own n => match st.row n with
    | some ⟨k, xs⟩ => if E.k e = some k then
        match lo, hi with
        | none, none => some ([], .own n)
        | _, _ => some (cutOb lo hi xs.length, .sub n k (cutLo lo) (cutHi hi xs.length - cutLo lo))
      else none
    | none => none
  | .sl e, .sub n k off len => match st.row n with
    | some ⟨k', xs⟩ => if E.k e = some k ∧ k' = k then
        match hi with
        | none => some (cutOb lo none len, .sub n k (off + cutLo lo) (len - cutLo lo))
        | some h => some (cutOb lo hi (xs.length - off), .sub n k (off + cutLo lo) (h.toNat - cutLo lo))
      else none
    | none => none
  | .sl e, .cst c => match E.k e with
    | some _ => if nilSlice c then some (cutOb lo hi 0, .cst c) else none
    | none => none
  | .arr m e, .rptr n => match st.row n with
    | some ⟨k, xs⟩ => if E.k e = some k then some (cutOb lo hi m ++ [xs.length = m], .sub n k (cutLo lo) (cutHi hi m - cutLo lo)) else none
    | none => none
  | _, _ => none

theorem map_add0 (A : Option Addr) (s : Nat) : A = A.map (·.add (0 * s)) := by
  cases A with
  | none => rfl
  | some a => simp [Addr.add_zero']

section
variable {E : Ty} {B : Base} {ρ : Nat → Value} {st : St} {a : Act} {fs : List Act} {w : World} {obs : List Prop} {s : SV} {v : Value}

def ints (k : IntKind) (x : Option Int) : Option Value := x.map (Value.int k)

theorem run_sliceBounds {P : Program} {isSlice : Bool} {len cap : Nat} {kl kh : IntKind} {lo hi : Option Int}
    (ho : ∀ p ∈ cutOb lo hi (hiCap hi len cap), p) (_hlc : len ≤ cap) :
    (Instr.sliceBounds isSlice len cap (ints kl lo) (ints kh hi) none).run P w = .ok (cutLo lo, cutHi hi len, cap) w ∧ cutLo lo ≤ cutHi hi len ∧ (cutHi hi len ≤ hiCap hi len cap) := by
  cases lo with
  | none =>
    cases hi with
    | none => exact ⟨by simp [Instr.sliceBounds, ints, cutLo, cutHi], by simp [cutLo], by simp [cutHi, hiCap]⟩
    | some h =>
      have : 0 ≤ h ∧ h ≤ (cap : Int) := ho _ (by simp [cutOb, hiCap])
      exact ⟨by simp [Instr.sliceBounds, ints, cutLo, cutHi, run_sliceBound, this], by simp [cutLo], by simp only [cutHi, hiCap]; omega⟩
  | some l =>
    cases hi with
    | none =>
      have : 0 ≤ l ∧ l ≤ (len : Int) := ho _ (by simp [cutOb, hiCap])
      exact ⟨by simp [Instr.sliceBounds, ints, cutLo, cutHi, run_sliceBound, this], by simp only [cutLo, cutHi]; omega, by simp [cutHi, hiCap]⟩
    | some h =>
      have : 0 ≤ l ∧ l ≤ h ∧ h ≤ (cap : Int) := ho _ (by simp [cutOb, hiCap])
      have h0 : 0 ≤ h := by omega
      have h1 : l ≤ ((h.toNat : Nat) : Int) := by omega
      exact ⟨by simp only [Instr.sliceBounds, ints, cutLo, cutHi, Option.map_some, Sem.run_bind, run_sliceBound w _ h cap _ h0 this.2.2, Result.andThen_ok, run_sliceBound w _ l h.toNat _ this.1 h1, Sem.run_pure], by simp only [cutLo, cutHi]; omega, by simp only [cutHi, hiCap]; omega⟩

theorem cutOb_mono {lo hi : Option Int} {n m : Nat} (h : ∀ p ∈ cutOb lo hi n, p) (hnm : n ≤ m) : ∀ p ∈ cutOb lo hi m, p := by
  cases lo <;> cases hi <;> simp only [cutOb, List.mem_singleton, List.not_mem_nil, forall_eq, false_implies, implies_true] at h ⊢ <;> omega

theorem cutList_eq {α : Type} (xs : List α) {lo hi : Option Int} (h : ∀ p ∈ cutOb lo hi xs.length, p) :
    cutList xs lo hi = (xs.drop (cutLo lo)).take (cutHi hi xs.length - cutLo lo) ∧ cutLo lo ≤ cutHi hi xs.length ∧ cutHi hi xs.length ≤ xs.length := by
  cases lo with
  | none => cases hi with
    | none => exact ⟨by simp [cutList, cutLo, cutHi], by simp [cutLo], by simp [cutHi]⟩
    | some h' =>
      have : 0 ≤ h' ∧ h' ≤ (xs.length : Int) := h _ (by simp [cutOb])
      exact ⟨by simp [cutList, cutLo, cutHi], by simp [cutLo], by simp only [cutHi]; omega⟩
  | some l => cases hi with
    | none =>
      have : 0 ≤ l ∧ l ≤ (xs.length : Int) := h _ (by simp [cutOb])
      exact ⟨by simp only [cutList, cutLo, cutHi]; rw [List.take_of_length_le (by simp)], by simp only [cutLo, cutHi]; omega, by simp [cutHi]⟩
    | some h' =>
      have : 0 ≤ l ∧ l ≤ h' ∧ h' ≤ (xs.length : Int) := h _ (by simp [cutOb])
      exact ⟨by simp only [cutList, cutLo, cutHi]; rw [List.drop_take], by simp only [cutLo, cutHi]; omega, by simp only [cutHi]; omega⟩

theorem cutList_length {α : Type} (xs : List α) {lo hi : Option Int} (h : ∀ p ∈ cutOb lo hi xs.length, p) : (cutList xs lo hi).length = cutHi hi xs.length - cutLo lo := by
  obtain ⟨e, h1, h2⟩ := cutList_eq xs h
  rw [e]; simp; omega

theorem bs_extract (s : ByteArray) (i j : Nat) : bs (s.extract i j) = ((bs s).drop i).take (j - i) := by
  have : (s.extract i j).data.toList = (s.data.toList.drop i).take (j - i) := by
    rw [ByteArray.data_extract, Array.toList_extract, List.extract_eq_take_drop]
  unfold bs
  rw [this, List.map_take, List.map_drop]

/-- A slice expression over a slice that can be read. -/
theorem els_cut {α : Type} {rep : α → List Value → Prop} {sz : Nat} {ad : Addr} {xs : List α} (h : Els w rep sz ad xs) (off len : Nat) : Els w rep sz (ad.add (off * sz)) ((xs.drop off).take len) := fun i x hx => by
  rw [List.getElem?_take] at hx
  split at hx
  · rw [List.getElem?_drop] at hx
    obtain ⟨ecs, hr, hc⟩ := h (off + i) x hx
    refine ⟨ecs, hr, fun j u hu => ?_⟩
    rw [addr_add_add, ← Nat.add_assoc, ← Nat.add_mul]
    exact hc j u hu
  · cases hx

theorem run_slice_of {P : Program} {t e : Nat} (hd : P.underlying t = some (.slice e)) {inf : TypeInfo} (hi : P.info? e = some inf) {A : Option Addr} {len cap : Nat} {lo hi' : Option Value} {l h m : Nat}
    (hb : (Instr.sliceBounds true len cap lo hi' none).run P w = .ok (l, h, m) w) :
    (Instr.sliceAt t (.slice A len cap) lo hi' none).run P w = .ok (.slice (if m = l then A else A.map (·.add (l * inf.size))) (h - l) (m - l)) w := by
  simp only [Instr.sliceAt, Sem.run_bind, run_underlying hd, Result.andThen_ok, Instr.slice, hb, run_sizeOf hi, Sem.run_pure]

theorem slice_sound (hE : E.Ok) (h : StRel B ρ st a fs w) {t : Nat} {s' : SV} {lo hi : Option Int} {kl kh : IntKind} (hop : st.slice E t s lo hi = some (obs, s')) (ho : ∀ p ∈ obs, p) (hs : s.rel (cx B ρ st.hp w) v) :
    ∃ v', (Instr.sliceAt t v (ints kl lo) (ints kh hi) none).run E.P w = .ok v' w ∧ s'.rel (cx B ρ st.hp w) v' := by
  have hd := hE.d t
  unfold St.slice at hop
  split at hop
  · rename_i l e1
    rw [e1] at hd
    have hd : E.P.underlying t = some .string := hd
    cases hop
    obtain ⟨s, rfl, rfl, h3⟩ := VRep_str.1 hs
    have ho' : ∀ p ∈ cutOb lo hi (hiCap hi s.size s.size), p := by
      have : hiCap hi s.size s.size = s.size := by cases hi <;> rfl
      rw [this, ← bs_length]; exact ho
    obtain ⟨r1, r2, r3⟩ := run_sliceBounds (P := E.P) (w := w) (isSlice := false) (kl := kl) (kh := kh) ho' (Nat.le_refl _)
    obtain ⟨c1, c2, c3⟩ := cutList_eq (bs s) ho
    rw [bs_length] at c1 c2 c3
    refine ⟨.string (s.extract (cutLo lo) (cutHi hi s.size)), by simp [Instr.sliceAt, run_underlying hd, Instr.slice, r1], VRep_str.2 ⟨_, rfl, ?_, ?_⟩⟩
    · rw [bs_extract, c1]
    · rw [ByteArray.size_extract]; omega
  · rename_i e k xs e1
    rw [e1] at hd
    have hd : E.P.underlying t = some (.slice e) := hd
    split at hop
    · rename_i hk
      cases hop
      obtain ⟨_, _, inf, z, hi0, hsz, _⟩ := hE.k hk
      obtain ⟨A, c, rfl, h1, h2, h3⟩ := VRep_sl.1 hs
      have ho' : ∀ p ∈ cutOb lo hi (hiCap hi xs.length c), p := by
        cases hi with
        | none => exact ho
        | some _ => exact cutOb_mono ho h1
      obtain ⟨r1, r2, r3⟩ := run_sliceBounds (P := E.P) (w := w) (isSlice := true) (kl := kl) (kh := kh) ho' h1
      obtain ⟨c1, c2, c3⟩ := cutList_eq xs ho
      have c4 := cutList_length xs ho
      refine ⟨_, run_slice_of hd hi0 r1, VRep_sl.2 ⟨_, _, by rw [c4], by omega, by omega, fun hne => ?_⟩⟩
      have hpos : 0 < (cutList xs lo hi).length := List.length_pos_iff.2 hne
      obtain ⟨ad, rfl, h4, h5, h6⟩ := h3 (fun e => by subst e; simp only [List.length_nil] at c3 c4; omega)
      rw [if_neg (by omega)]
      exact ⟨_, rfl, by rw [add_block]; exact h4, by rw [add_block]; exact h5, by rw [c1, hsz]; exact els_cut h6 _ _⟩
    · cases hop
  · rename_i e n e1
    rw [e1] at hd
    have hd : E.P.underlying t = some (.slice e) := hd
    split at hop
    · rename_i k xs hrow
      split at hop
      · rename_i hk
        obtain ⟨_, _, inf, z, hi0, hsz, _⟩ := hE.k hk
        obtain ⟨e', he⟩ := St.row_some hrow
        obtain ⟨A, c, e3, h1, h2, h3, h4⟩ := row_rel (h.h.obj n _ he)
        have hs' := hs
        obtain ⟨hn, rfl, _⟩ := hs
        have main : cutOb lo hi xs.length = obs → ∃ v', (Instr.sliceAt t (ρ n) (ints kl lo) (ints kh hi) none).run E.P w = .ok v' w ∧ (SV.sub n k (cutLo lo) (cutHi hi xs.length - cutLo lo)).rel (cx B ρ st.hp w) v' := by
          intro heq
          rw [← heq] at ho
          have ho' : ∀ p ∈ cutOb lo hi (hiCap hi xs.length c), p := by
            cases hi with
            | none => exact ho
            | some _ => exact cutOb_mono ho h1
          obtain ⟨r1, r2, r3⟩ := run_sliceBounds (P := E.P) (w := w) (isSlice := true) (kl := kl) (kh := kh) ho' h1
          obtain ⟨c1, c2, c3⟩ := cutList_eq xs ho
          refine ⟨_, by rw [e3]; exact run_slice_of hd hi0 r1, hn, A, xs.length, c, _, _, e3, rfl, by omega, by omega, by omega, ?_⟩
          by_cases hc : c = cutLo lo
          · by_cases h00 : cutLo lo = 0
            · rw [if_pos hc, h00]; exact .inl (map_add0 _ _)
            · exact .inr (by omega)
          · rw [if_neg hc, hsz]; exact .inl rfl
        split at hop
        · cases hop
          refine ⟨ρ n, ?_, hs'⟩
          have r1 := (run_sliceBounds (P := E.P) (w := w) (isSlice := true) (len := xs.length) (cap := c) (kl := kl) (kh := kh) (lo := none) (hi := none) (by simp [cutOb]) h1).1
          rw [show (cx B ρ st.hp w).ρ n = ρ n from rfl, e3, run_slice_of hd hi0 r1]
          simp only [cutLo, cutHi, Nat.sub_zero, Nat.zero_mul]
          congr 2
          split
          · rfl
          · cases A <;> simp [Addr.add]
        · cases hop
          exact main rfl
      · cases hop
    · cases hop
  · rename_i e n k off len e1
    rw [e1] at hd
    have hd : E.P.underlying t = some (.slice e) := hd
    split at hop
    · rename_i k' xs hrow
      split at hop
      · rename_i hk
        obtain ⟨hk, rfl⟩ := hk
        obtain ⟨_, _, inf, z, hi0, hsz, _⟩ := hE.k hk
        obtain ⟨e', he⟩ := St.row_some hrow
        obtain ⟨A, c, e3, h1, h2, h3, h4⟩ := row_rel (h.h.obj n _ he)
        obtain ⟨hn, A0, m, cap, A', cc, e4, rfl, h5, hc1, hc2, h6⟩ := hs
        simp only at e4
        have e5 := e4
        rw [e3] at e4
        simp only [Value.slice.injEq] at e4
        obtain ⟨rfl, rfl, rfl⟩ := e4
        have main : ∀ (len' : Nat), (∀ p ∈ cutOb lo hi (hiCap hi len cc), p) → len' = cutHi hi len - cutLo lo → (match hi with | some _ => cutHi hi len ≤ xs.length - off | none => True) →
            ∃ v', (Instr.sliceAt t (.slice A' len cc) (ints kl lo) (ints kh hi) none).run E.P w = .ok v' w ∧ (SV.sub n k' (off + cutLo lo) len').rel (cx B ρ st.hp w) v' := by
          intro len' ho' hl hb
          obtain ⟨r1, r2, r3⟩ := run_sliceBounds (P := E.P) (w := w) (isSlice := true) (kl := kl) (kh := kh) ho' (by omega)
          refine ⟨_, run_slice_of hd hi0 r1, hn, A, xs.length, c, _, _, e3, by rw [hl], ?_, by omega, by omega, ?_⟩
          · cases hi with
            | none => simp only [hiCap] at r3; omega
            | some _ => simp only at hb; omega
          · by_cases hc : cc = cutLo lo
            · by_cases h00 : off + cutLo lo = 0
              · rw [if_pos hc]
                rcases h6 with rfl | h6
                · exact .inl (by rw [show off + cutLo lo = off by omega])
                · omega
              · exact .inr (by omega)
            · rw [if_neg hc]
              rcases h6 with rfl | h6
              · refine .inl ?_
                rw [Option.map_map, hsz]
                congr 1
                funext x
                simp only [Function.comp, addr_add_add, Nat.add_mul]
              · exact .inr (by omega)
        split at hop
        · cases hop
          exact main _ ho rfl trivial
        · rename_i hh
          cases hop
          have h7 := cutOb_mono ho (m := cc) (by omega)
          refine main _ h7 rfl ?_
          simp only [cutHi]
          cases lo with
          | none =>
            have : 0 ≤ hh ∧ hh ≤ ((xs.length - off : Nat) : Int) := ho _ (by simp [cutOb])
            omega
          | some l =>
            have : 0 ≤ l ∧ l ≤ hh ∧ hh ≤ ((xs.length - off : Nat) : Int) := ho _ (by simp [cutOb])
            omega
      · cases hop
    · cases hop
  · rename_i e c e1
    rw [e1] at hd
    have hd : E.P.underlying t = some (.slice e) := hd
    split at hop
    · rename_i k hk
      split at hop
      · rename_i hn
        cases hop
        obtain ⟨_, _, inf, z, hi0, hsz, _⟩ := hE.k hk
        have hs : v = c := hs
        rw [nilSlice_eq hn] at hs
        rw [hs]
        have ho' : ∀ p ∈ cutOb lo hi (hiCap hi 0 0), p := by
          cases hi <;> exact ho
        obtain ⟨r1, r2, r3⟩ := run_sliceBounds (P := E.P) (w := w) (isSlice := true) (kl := kl) (kh := kh) ho' (Nat.le_refl _)
        have h0 : hiCap hi 0 0 = 0 := by cases hi <;> rfl
        refine ⟨_, run_slice_of hd hi0 r1, ?_⟩
        show _ = c
        rw [nilSlice_eq hn]
        have e1 : cutLo lo = 0 := by omega
        have e2 : cutHi hi 0 = 0 := by omega
        rw [e1, e2]
        rfl
      · cases hop
    · cases hop
  · rename_i m e n e1
    rw [e1] at hd
    have hd : E.P.underlying t = some (.array m e) := hd
    split at hop
    · rename_i k xs hrow
      split at hop
      · rename_i hk
        cases hop
        obtain ⟨_, _, inf, z, hi0, hsz, _⟩ := hE.k hk
        obtain ⟨e', he⟩ := St.row_some hrow
        obtain ⟨A, c, e3, h1, h2, h3, h4⟩ := row_rel (h.h.obj n _ he)
        obtain ⟨hn, g, m', cap, e4, rfl, hcap'⟩ := hs
        simp only at e4
        have e5 := e4
        rw [e3] at e4
        simp only [Value.slice.injEq] at e4
        obtain ⟨rfl, rfl, rfl⟩ := e4
        have ho1 : ∀ p ∈ cutOb lo hi m, p := fun p hp => ho p (List.mem_append_left _ hp)
        have hxm : xs.length = m := ho _ (by simp)
        have hcap : hiCap hi m m = m := by cases hi <;> rfl
        have ho' : ∀ p ∈ cutOb lo hi (hiCap hi m m), p := by rw [hcap]; exact ho1
        obtain ⟨r1, r2, r3⟩ := run_sliceBounds (P := E.P) (w := w) (isSlice := false) (kl := kl) (kh := kh) ho' (Nat.le_refl _)
        rw [hcap] at r3
        refine ⟨_, by
          simp only [Instr.sliceAt, Sem.run_bind, run_underlying hd, Result.andThen_ok, Instr.sureAddr, Sem.run_pure, r1, run_sizeOf hi0]
          rfl, hn, _, _, _, _, _, e5, rfl, by omega, by omega, by omega, ?_⟩
        by_cases hc : m = cutLo lo
        · by_cases h00 : cutLo lo = 0
          · rw [if_pos hc, h00]; exact .inl (map_add0 _ _)
          · exact .inr (by omega)
        · rw [if_neg hc, hsz]; exact .inl rfl
      · cases hop
    · cases hop
  · cases hop

end

/-! ### Fields, functions, the rest -/
def fieldOf (E : Ty) (t f : Nat) : Option (Nat × Nat) := match E.d t with | .st l => l[f]? | _ => none

def SV.isAgg : SV → Bool
  | .dat k _ => k.isAgg
  | .agg _ => true
  | _ => false

def St.field (E : Ty) (t : Nat) (s : SV) (f : Nat) : PR :=
  match s.isAgg, fieldOf E t f, s.cells with
  | true, some (ft, off), some l => match E.sz ft with
    | some z => match ofCells E ft ((l.drop off).take z) with
      | some s => some ([], s)
      | none => none
    | none => none
  | _, _, _ => none

def St.fieldAddr (E : Ty) (t : Nat) (s : SV) (f : Nat) : PR :=
  match fieldOf E t f with
  | some (ft, off) => match E.sz ft with
    | some (_ + 1) => match s with
      | .ptr n o => some ([], .ptr n (o + off))
      | .oel n k i o => some ([], .oel n k i (o + off))
      | .adr k x => match E.k ft with
        | some kf => match unleaf kf (((leaves k x).drop off).take kf.sz) with
          | some (y, []) => some ([], .adr kf y)
          | _ => none
        | none => none
      | _ => none
    | _ => none
  | none => none

def St.nilCheck (s : SV) : PR :=
  match s with
  | .ptr n o => some ([], .ptr n o)
  | .rptr n => some ([], .rptr n)
  | .adr k x => some ([], .adr k x)
  | .oel n k i o => some ([], .oel n k i o)
  | .fn f c => some ([], .fn f c)
  | _ => none

/-- A truth value as data. -/
def SV.nb : SV → SV
  | .cst (.bool b) => .dat .bool b
  | s => s
theorem nb_rel {C : Cx} {s : SV} {v : Value} (h : s.rel C v) : s.nb.rel C v := by
  unfold SV.nb
  split
  · exact VRep_bool.2 h
  · exact h

def joinIf (c : Bool) (s t : SV) : PR :=
  match (s.ug.1, s.ug.2.nb), (t.ug.1, t.ug.2.nb) with
  | (oa, .dat ka x), (ob, .dat kb y) =>
    if h : kb = ka then some (oa.map (fun p => c = true → p) ++ ob.map (fun p => c = false → p), .dat ka (bif c then x else castT h y)) else none
  | _, _ => none

def St.un (op : UnOp) (s : SV) : PR :=
  match op, s with
  | .not, .dat .bool b => some ([], .dat .bool (!b))
  | .not, .cst (.bool b) => some ([], .cst (.bool (!b)))
  | .neg, .dat (.int k) n => some ([], .dat (.int k) (k.wrap (0 - n)))
  | .xor, .dat (.int k) n => some ([], .dat (.int k) (ibit .xor k (if k.signed then -1 else k.max) n))
  | _, _ => none

/-- A nil of the type. -/
def nilConst : TD → Value → Bool
  | .fn, .nilFunc => true
  | .ptr _, .pointer none => true
  | .sl _, .slice none _ _ => true
  | _, _ => false

/-- Nil, or not: of what is known. -/
def nilEq (d : TD) : SV → Option Bool
  | .cst c => if nilConst d c then some true else none
  | .fn _ _ => match d with | .fn => some false | _ => none
  | .ptr _ _ => match d with | .ptr _ => some false | _ => none
  | .rptr _ => match d with | .ptr _ => some false | _ => none
  | .adr _ _ => match d with | .ptr _ => some false | _ => none
  | .oel _ _ _ _ => match d with | .ptr _ => some false | _ => none
  | _ => none

def isBoolTD : TD → Bool
  | .bool => true
  | _ => false

def binNil (d : TD) (op : BinOp) (s : SV) (c : Value) : PR :=
  if nilConst d c then
    match op, nilEq d s with
    | .eql, some b => some ([], .cst (.bool b))
    | .neq, some b => some ([], .cst (.bool (!b)))
    | _, _ => none
  else none

def TD.conc : TD → Bool
  | .oth | .ifc => false
  | _ => true
theorem TD.conc_known {d : TD} (h : d.conc = true) : d.known = true := by cases d <;> first | rfl | cases h

/-- An interface held against nil. -/
def ifcNil (d : TD) (op : BinOp) (s : SV) (y : Operand) : PR :=
  match d, y, s, op with
  | .ifc, .const .nilIface, .ifc _ _, .eql => some ([], .cst (.bool false))
  | .ifc, .const .nilIface, .ifc _ _, .neq => some ([], .cst (.bool true))
  | .ifc, .const .nilIface, .cst .nilIface, .eql => some ([], .cst (.bool true))
  | .ifc, .const .nilIface, .cst .nilIface, .neq => some ([], .cst (.bool false))
  | .ifc, .const .nilIface, .dat .err b, .eql => some ([], .dat .bool (!b))
  | .ifc, .const .nilIface, .dat .err b, .neq => some ([], .dat .bool b)
  | _, _, _, _ => none

/-- A type that is asked for, and that it is. -/
def St.assert (E : Ty) (s : SV) (t : Nat) (ok : Bool) : PR :=
  match E.d t, s with
  | .ifc, _ => none
  | .oth, _ => none
  | _, .ifc u s => if u = t then some ([], if ok then .tup [s, .cst (.bool true)] else s) else none
  | _, _ => none

def St.bin (E : Ty) (ty : Nat) (op : BinOp) (s t : SV) : PR :=
  match op, s, t with
  | .shl, .dat (.int k) x, .dat (.int _) y => binShift .shl k x y
  | .shr, .dat (.int k) x, .dat (.int _) y => binShift .shr k x y
  | op, .dat (.int k) x, .dat (.int k') y => if k = k' then binInt op k x y else none
  | op, .dat .str x, .dat .str y => binStr op x y
  | .eql, .dat .bool x, .dat .bool y => if isBoolTD (E.d ty) then some ([], .dat .bool (decide (x = y))) else none
  | .neq, .dat .bool x, .dat .bool y => if isBoolTD (E.d ty) then some ([], .dat .bool (decide (x ≠ y))) else none
  | op, s, .cst c => binNil (E.d ty) op s c
  | _, _, _ => none

def addObs (o : List Prop) : PR → PR
  | some (p, s) => some (o ++ p, s)
  | none => none

/-- A builtin that changes nothing. -/
def St.op1Call (E : Ty) (st : St) (c : Call) : PR :=
  match c.callee, c.args.toList, c.argTypes.toList with
  | .builtin .len, [x], [t] => addObs (st.g x).1 (st.len E t (st.g x).2)
  | .builtin .min, [x, y], _ => match st.g x, st.g y with
    | (o1, .dat (.int k) a), (o2, .dat (.int k') b) => if k' = k then some (o1 ++ o2, .dat (.int k) (if b < a then b else a)) else none
    | _, _ => none
  | .builtin .max, [x, y], _ => match st.g x, st.g y with
    | (o1, .dat (.int k) a), (o2, .dat (.int k') b) => if k' = k then some (o1 ++ o2, .dat (.int k) (if a < b then b else a)) else none
    | _, _ => none
  | _, _, _ => none

/-- An operation that changes nothing: what it asks, and its value. -/
def St.op1 (E : Ty) (st : St) (o : Oper) : PR :=
  match o.op with
  | .move x | .assign x => some ([], st.ev x)
  | .pick c a b => match st.g c with
    | (o, .dat .bool c) => addObs o (joinIf c (st.ev a) (st.ev b))
    | (o, .cst (.bool true)) => some (o, st.ev a)
    | (o, .cst (.bool false)) => some (o, st.ev b)
    | _ => none
  | .binOp op ty x y _ => match ifcNil (E.d ty) op (st.g x).2 y with
    | some (_, s) => some ((st.g x).1, s)
    | none => addObs ((st.g x).1 ++ (st.g y).1) (St.bin E ty op (st.g x).2.nb (st.g y).2.nb)
  | .typeAssert x _ t ok => addObs (st.g x).1 (St.assert E (st.g x).2 t ok)
  | .unOp op _ x => addObs (st.g x).1 (St.un op (st.g x).2)
  | .convert src dst x => addObs (st.g x).1 (st.conv E src dst (st.g x).2)
  | .load t x => addObs (st.g x).1 (st.load E t (st.g x).2)
  | .indexAddr t x i => match st.g i with
    | (o, .dat (.int _) j) => addObs ((st.g x).1 ++ o) (st.indexAddr E t (st.g x).2 j)
    | _ => none
  | .index t x i => match st.g i with
    | (o, .dat (.int _) j) => addObs ((st.g x).1 ++ o) (St.index E t (st.g x).2 j)
    | _ => none
  | .slice t x lo hi none => match st.bnd lo, st.bnd hi with
    | some (o1, l), some (o2, h) => addObs ((st.g x).1 ++ (o1 ++ o2)) (st.slice E t (st.g x).2 l h)
    | _, _ => none
  | .field t x f => addObs (st.g x).1 (St.field E t (st.g x).2 f)
  | .fieldAddr t x f => addObs (st.g x).1 (St.fieldAddr E t (st.g x).2 f)
  | .nilCheck x => addObs (st.g x).1 (St.nilCheck (st.g x).2)
  | .extract x i => match st.g x with
    | (o, .tup l) => match l[i]? with
      | some s => some (o, s)
      | none => none
    | _ => none
  | .makeFunc (.func f) first cap => match first.toList with
    | [] => some ([], .fn f (cap.toList.map st.ev))
    | _ => none
  | .makeInterface t x => if (E.d t).conc then some ([], .ifc t (st.ev x)) else none
  | .call c => st.op1Call E c
  | _ => none

section
variable {E : Ty} {B : Base} {ρ : Nat → Value} {st : St} {a : Act} {fs : List Act} {w : World} {obs : List Prop} {s : SV} {v : Value} {C : Cx}

theorem addObs_eq {o : List Prop} {r : PR} {obs : List Prop} {s : SV} (h : addObs o r = some (obs, s)) : ∃ p, r = some (p, s) ∧ obs = o ++ p := by
  cases r with
  | none => cases h
  | some x => obtain ⟨p, s'⟩ := x; cases h; exact ⟨p, rfl, rfl⟩

theorem field_of (hE : E.Ok) {t f ft off : Nat} (h : fieldOf E t f = some (ft, off)) : ∃ fields : Array Field, E.P.underlying t = some (.struct fields) ∧ ∃ g, fields[f]? = some g ∧ g.type = ft ∧ g.offset = off := by
  have hd := hE.d t
  unfold fieldOf at h
  split at h
  · rename_i l e1
    rw [e1] at hd
    obtain ⟨h1, h2⟩ := hd
    refine ⟨_, h1, ?_⟩
    rw [← h2, List.getElem?_map] at h
    obtain ⟨g, hg, e⟩ := Option.map_eq_some_iff.1 h
    simp only [Prod.mk.injEq] at e
    exact ⟨g, by simpa using hg, e.1, e.2⟩
  · cases h

/-- A part of an aggregate. -/
theorem run_part (hE : E.Ok) {ft off z : Nat} {cs : Array Value} {s' : SV} {l : List SV} (hz : E.sz ft = some z) (hop : ofCells E ft ((l.drop off).take z) = some s') (hr : SV.rels C l cs.toList) :
    ∃ v', (part ft cs off).run E.P w = .ok v' w ∧ s'.rel C v' := by
  obtain ⟨h1, ⟨z', h2, h3⟩, h4, h5⟩ := ofCells_rel hE hop (rels_take z (rels_drop off hr))
  rw [hz] at h2
  cases h2
  obtain ⟨inf, hi, hsz, _⟩ := hE.sz hz
  unfold part
  simp only [Sem.run_bind, run_isAgg (hE.d ft) h1, Result.andThen_ok]
  cases hb : (E.d ft).isAgg with
  | true =>
    rw [hb] at h5
    refine ⟨_, by simp only [if_true, Sem.run_bind, run_sizeOf hi, Result.andThen_ok, Sem.run_pure]; rfl, ?_⟩
    simp only [if_true] at h5
    have : cs.extract off (off + inf.size) = ((cs.toList.drop off).take z).toArray := by
      rw [hsz]
      apply Array.ext'
      simp [Array.toList_extract, List.extract_eq_take_drop]
    rw [this]; exact h5
  | false =>
    rw [hb] at h5
    simp only [Bool.false_eq_true, if_false] at h5 ⊢
    have hl := h4 hb
    match hv : (cs.toList.drop off).take z, hl with
    | [c], _ =>
      rw [hv] at h5
      have : cs[off]? = some c := by
        have h6 : ((cs.toList.drop off).take z)[0]? = some c := by rw [hv]; rfl
        rw [List.getElem?_take] at h6
        split at h6
        · simpa using h6
        · cases h6
      rw [this]
      exact ⟨c, rfl, h5⟩

theorem isAgg_rel (h : s.isAgg = true) (hs : s.rel C v) : ∃ cs, v = .agg cs := by
  cases s <;> simp only [SV.isAgg, Bool.false_eq_true] at h
  case dat k x => obtain ⟨cs, _, h2⟩ := hs; rw [if_pos h] at h2; exact ⟨_, h2⟩
  case agg l => obtain ⟨vs, h2, _⟩ := hs; exact ⟨_, h2⟩

theorem field_sound (hE : E.Ok) {t f : Nat} {s' : SV} (hop : St.field E t s f = some (obs, s')) (hs : s.rel C v) :
    ∃ v', (Instr.field t v f).run E.P w = .ok v' w ∧ s'.rel C v' := by
  unfold St.field at hop
  split at hop
  · rename_i ft off l e0 e1 e2
    split at hop
    · rename_i z hz
      split at hop
      · rename_i s0 e3
        cases hop
        obtain ⟨fields, h1, g, h2, h3, h4⟩ := field_of hE e1
        obtain ⟨cs, rfl⟩ := isAgg_rel e0 hs
        have hr := cells_rel e2 hs
        obtain ⟨v', h5, h6⟩ := run_part (w := w) (cs := cs) hE hz e3 hr
        refine ⟨v', ?_, h6⟩
        simp only [Instr.field, Sem.run_bind, run_underlying h1, Result.andThen_ok, h2, asAgg, Sem.run_pure, h3, h4]
        exact h5
      · cases hop
    · cases hop
  · cases hop

theorem fieldAddr_sound (hE : E.Ok) {t f : Nat} {s' : SV} (hop : St.fieldAddr E t s f = some (obs, s')) (hs : s.rel C v) :
    ∃ v', (Instr.fieldAt t v f).run E.P w = .ok v' w ∧ s'.rel C v' := by
  unfold St.fieldAddr at hop
  split at hop
  · rename_i ft off e1
    obtain ⟨fields, h1, g, h2, h3, h4⟩ := field_of hE e1
    split at hop
    · rename_i z hz
      obtain ⟨inf, hi, hsz, _⟩ := hE.sz hz
      have place : ∀ ad : Addr, (Instr.fieldAt t (.pointer (some ad)) f).run E.P w = .ok (.pointer (some (ad.add off))) w := by
        intro ad
        simp only [Instr.fieldAt, Sem.run_bind, run_underlying h1, Result.andThen_ok, h2, Instr.sureAddr, Sem.run_pure, fieldPlace, h3, run_sizeOf hi, hsz, h4]
        simp
      split at hop
      · cases hop
        obtain ⟨hn, b, e2, rfl⟩ := hs
        exact ⟨_, place _, hn, b, e2, by rw [addr_add]⟩
      · cases hop
        obtain ⟨hn, g', m, cap, e2, h5, rfl⟩ := hs
        exact ⟨_, place _, hn, g', m, cap, e2, h5, by rw [addr_add_add, Nat.add_assoc]⟩
      · rename_i k x
        split at hop
        · rename_i kf hk
          split at hop
          · rename_i y hy
            cases hop
            obtain ⟨ad, cs, rfl, h5, h6, h7, h8⟩ := hs
            have hy2 := unleaf_all hy (rels_take kf.sz (rels_drop off (leaves_rel (C := C) h5)))
            refine ⟨_, place _, _, _, rfl, hy2, by rw [add_block]; exact h6, by rw [add_block]; exact h7, fun j u hu => ?_⟩
            rw [List.getElem?_take] at hu
            split at hu
            · rw [List.getElem?_drop] at hu
              rw [addr_add_add]
              exact h8 _ u hu
            · cases hu
          · cases hop
        · cases hop
      · cases hop
    · cases hop
  · cases hop

theorem nilCheck_sound {s' : SV} (hop : St.nilCheck s = some (obs, s')) (hs : s.rel C v) (x : Operand) (o : Oper) (ho : o.op = .nilCheck x) (hx : a.eval x = v) :
    (execOp a.eval o).run E.P w = .ok (.value v) w ∧ s'.rel C v := by
  unfold St.nilCheck at hop
  split at hop <;> cases hop
  · have hs' := hs
    obtain ⟨hn, b, _, rfl⟩ := hs
    exact ⟨by simp [execOp, ho, hx], hs'⟩
  · have hs' := hs
    obtain ⟨hn, g, m, cap, _, rfl, _⟩ := hs
    exact ⟨by simp [execOp, ho, hx], hs'⟩
  · have hs' := hs
    obtain ⟨ad, cs, rfl, _⟩ := hs
    exact ⟨by simp [execOp, ho, hx], hs'⟩
  · have hs' := hs
    obtain ⟨hn, g, m, cap, _, _, rfl⟩ := hs
    exact ⟨by simp [execOp, ho, hx], hs'⟩
  · have hs' := hs
    obtain ⟨vs, rfl, _⟩ := hs
    exact ⟨by simp [execOp, ho, hx], hs'⟩

theorem nil_fn {t : Nat} {p r : Array TypeId} {vv : Bool} (hd : E.P.underlying t = some (.func p r vv)) (d : Nat) (f : Fn) (a b : Array Value) : (Op.equalIn (d + 1) t (.func f a b) .nilFunc).run E.P w = .ok false w := by
  simp [Op.equalIn, run_underlying hd]
theorem nil_fn0 {t : Nat} {p r : Array TypeId} {vv : Bool} (hd : E.P.underlying t = some (.func p r vv)) (d : Nat) : (Op.equalIn (d + 1) t .nilFunc .nilFunc).run E.P w = .ok true w := by
  simp [Op.equalIn, run_underlying hd]
theorem nil_ptr {t e : Nat} (hd : E.P.underlying t = some (.pointer e)) (d : Nat) (a : Addr) : (Op.equalIn (d + 1) t (.pointer (some a)) (.pointer none)).run E.P w = .ok false w := by
  simp [Op.equalIn, run_underlying hd]
theorem nil_ptr0 {t e : Nat} (hd : E.P.underlying t = some (.pointer e)) (d : Nat) : (Op.equalIn (d + 1) t (.pointer none) (.pointer none)).run E.P w = .ok true w := by
  simp [Op.equalIn, run_underlying hd]
theorem nil_sl0 {t e : Nat} (hd : E.P.underlying t = some (.slice e)) (d : Nat) (l c l' c' : Nat) : (Op.equalIn (d + 1) t (.slice none l c) (.slice none l' c')).run E.P w = .ok true w := by
  simp [Op.equalIn, run_underlying hd]

theorem nilEq_sound {d : TD} {c : Value} {t : Nat} (hd : d.ok E.P t) (hc : nilConst d c = true) {b : Bool} (hb : nilEq d s = some b) (hs : s.rel C v) :
    (binOp .eql t v c).run E.P w = .ok (.bool b) w ∧ (binOp .neq t v c).run E.P w = .ok (.bool (!b)) w ∧ (∀ cs, v ≠ .agg cs) ∧ v ≠ .nilIface := by
  unfold nilConst at hc
  split at hc
  · -- functions
    obtain ⟨p, r, vv, hd⟩ := hd
    cases s <;> simp only [nilEq] at hb <;> try (cases hb; done)
    case cst c' =>
      split at hb
      · rename_i h1
        cases hb
        have hs : v = c' := hs
        subst hs
        cases v <;> simp only [nilConst, Bool.false_eq_true] at h1
        have q : (Op.equal t .nilFunc .nilFunc).run E.P w = .ok true w := nil_fn0 hd 9999
        exact ⟨by simp only [binOp, Sem.run_bind, q, Result.andThen_ok, Sem.run_pure], by simp only [binOp, Sem.run_bind, q, Result.andThen_ok, Sem.run_pure], by simp, by simp⟩
      · cases hb
    case fn f cap =>
      cases hb
      obtain ⟨vs, rfl, _⟩ := hs
      have q : (Op.equal t (.func (.func f) #[] vs.toArray) .nilFunc).run E.P w = .ok false w := nil_fn hd 9999 _ _ _
      exact ⟨by simp only [binOp, Sem.run_bind, q, Result.andThen_ok, Sem.run_pure], by simp only [binOp, Sem.run_bind, q, Result.andThen_ok, Sem.run_pure], by simp, by simp⟩
  · -- pointers
    rename_i e
    have hd : E.P.underlying t = some (.pointer e) := hd
    have some_ : ∀ ad : Addr, (binOp .eql t (.pointer (some ad)) (.pointer none)).run E.P w = .ok (.bool false) w ∧ (binOp .neq t (.pointer (some ad)) (.pointer none)).run E.P w = .ok (.bool (!false)) w := fun ad => by
      have q : (Op.equal t (.pointer (some ad)) (.pointer none)).run E.P w = .ok false w := nil_ptr hd 9999 ad
      exact ⟨by simp only [binOp, Sem.run_bind, q, Result.andThen_ok, Sem.run_pure], by simp only [binOp, Sem.run_bind, q, Result.andThen_ok, Sem.run_pure]⟩
    cases s <;> simp only [nilEq] at hb <;> try (cases hb; done)
    case cst c' =>
      split at hb
      · rename_i h1
        cases hb
        have hs : v = c' := hs
        subst hs
        cases v <;> simp only [nilConst, Bool.false_eq_true] at h1
        case pointer a =>
          cases a <;> simp only [Bool.false_eq_true] at h1
          have q : (Op.equal t (.pointer none) (.pointer none)).run E.P w = .ok true w := nil_ptr0 hd 9999
          exact ⟨by simp only [binOp, Sem.run_bind, q, Result.andThen_ok, Sem.run_pure], by simp only [binOp, Sem.run_bind, q, Result.andThen_ok, Sem.run_pure], by simp, by simp⟩
      · cases hb
    case ptr n o => cases hb; obtain ⟨_, b, _, rfl⟩ := hs; exact ⟨(some_ _).1, (some_ _).2, by simp, by simp⟩
    case rptr n => cases hb; obtain ⟨_, g, m, cap, _, rfl, _⟩ := hs; exact ⟨(some_ _).1, (some_ _).2, by simp, by simp⟩
    case adr k x => cases hb; obtain ⟨ad, cs, rfl, _⟩ := hs; exact ⟨(some_ _).1, (some_ _).2, by simp, by simp⟩
    case oel n k i o => cases hb; obtain ⟨_, g, m, cap, _, _, rfl⟩ := hs; exact ⟨(some_ _).1, (some_ _).2, by simp, by simp⟩
  · -- slices
    rename_i e l c2
    have hd : E.P.underlying t = some (.slice e) := hd
    cases s <;> simp only [nilEq] at hb <;> try (cases hb; done)
    case cst c' =>
      split at hb
      · rename_i h1
        cases hb
        have hs : v = c' := hs
        subst hs
        cases v <;> simp only [nilConst, Bool.false_eq_true] at h1
        case slice a l' c =>
          cases a <;> simp only [Bool.false_eq_true] at h1
          have q : (Op.equal t (.slice none l' c) (.slice none l c2)).run E.P w = .ok true w := nil_sl0 hd 9999 _ _ _ _
          exact ⟨by simp only [binOp, Sem.run_bind, q, Result.andThen_ok, Sem.run_pure], by simp only [binOp, Sem.run_bind, q, Result.andThen_ok, Sem.run_pure], by simp, by simp⟩
      · cases hb
  · cases hc

theorem bin_sound (hE : E.Ok) {op : BinOp} {t t' : SV} {u : Value} {ty : Nat} (hop : St.bin E ty op s t = some (obs, t')) (ho : ∀ p ∈ obs, p) (hs : s.rel C v) (ht : t.rel C u) (x y : Operand) :
    ∃ v', (do eqGuard op ty x y v u; binOp op ty v u).run E.P w = .ok v' w ∧ t'.rel C v' := by
  have eg : ∀ {v u : Value}, (∀ cs, v ≠ .agg cs) → v ≠ .nilIface → (eqGuard op ty x y v u).run E.P w = .ok () w := by
    intro v u h1 h2
    unfold eqGuard
    cases op <;> first
      | rfl
      | (cases v <;> first | rfl | (exact absurd rfl (h1 _)) | (exact absurd rfl h2))
  have main : ∀ {v u : Value}, (∀ cs, v ≠ .agg cs) → v ≠ .nilIface → (∃ v', (binOp op ty v u).run E.P w = .ok v' w ∧ t'.rel C v') → ∃ v', (do eqGuard op ty x y v u; binOp op ty v u).run E.P w = .ok v' w ∧ t'.rel C v' := by
    intro v u h1 h2 h3
    obtain ⟨v', h4, h5⟩ := h3
    exact ⟨v', by simp only [Sem.run_bind, eg h1 h2, Result.andThen_ok]; exact h4, h5⟩
  unfold St.bin at hop
  split at hop
  · obtain ⟨rfl, hx⟩ := VRep_int.1 hs
    obtain ⟨rfl, _⟩ := VRep_int.1 ht
    exact main (by simp) (by simp) (binShift_sound hop ho hx ty)
  · obtain ⟨rfl, hx⟩ := VRep_int.1 hs
    obtain ⟨rfl, _⟩ := VRep_int.1 ht
    exact main (by simp) (by simp) (binShift_sound hop ho hx ty)
  · obtain ⟨rfl, hx⟩ := VRep_int.1 hs
    obtain ⟨rfl, _⟩ := VRep_int.1 ht
    split at hop
    · rename_i e
      subst e
      exact main (by simp) (by simp) (binInt_sound hop ho hx ty)
    · cases hop
  · obtain ⟨s1, rfl, rfl, _⟩ := VRep_str.1 hs
    obtain ⟨s2, rfl, rfl, _⟩ := VRep_str.1 ht
    exact main (by simp) (by simp) (binStr_sound hop ho ty)
  · have h1 := VRep_bool.1 hs
    have h2 := VRep_bool.1 ht
    subst h1 h2
    split at hop
    · rename_i hb
      cases hop
      have hd := hE.d ty
      cases hq : E.d ty <;> rw [hq] at hb <;> simp only [isBoolTD, Bool.false_eq_true] at hb
      rw [hq] at hd
      exact main (by simp) (by simp) ⟨_, run_eql_bool w ty _ _ hd, VRep_bool.2 rfl⟩
    · cases hop
  · have h1 := VRep_bool.1 hs
    have h2 := VRep_bool.1 ht
    subst h1 h2
    split at hop
    · rename_i hb
      cases hop
      have hd := hE.d ty
      cases hq : E.d ty <;> rw [hq] at hb <;> simp only [isBoolTD, Bool.false_eq_true] at hb
      rw [hq] at hd
      exact main (by simp) (by simp) ⟨_, run_neq_bool w ty _ _ hd, VRep_bool.2 (by congr 1; rw [Bool.eq_iff_iff]; simp)⟩
    · cases hop
  · rename_i c
    have hu : u = c := ht
    subst hu
    unfold binNil at hop
    split at hop
    · rename_i hc
      split at hop
      · rename_i b hb
        cases hop
        obtain ⟨h1, h2, h3, h4⟩ := nilEq_sound (w := w) (hE.d ty) hc hb hs
        exact main h3 h4 ⟨.bool b, h1, rfl⟩
      · rename_i b hb
        cases hop
        obtain ⟨h1, h2, h3, h4⟩ := nilEq_sound (w := w) (hE.d ty) hc hb hs
        exact main h3 h4 ⟨.bool (!b), h2, rfl⟩
      · cases hop
    · cases hop
  · cases hop

theorem nil_if {t u : Nat} {m : Array (String × TypeId)} (hd : E.P.underlying t = some (.interface m)) (d : Nat) (v : Value) : (Op.equalIn (d + 1) t (.iface u v) .nilIface).run E.P w = .ok false w := by
  simp [Op.equalIn, run_underlying hd]
theorem nil_if0 {t : Nat} {m : Array (String × TypeId)} (hd : E.P.underlying t = some (.interface m)) (d : Nat) : (Op.equalIn (d + 1) t .nilIface .nilIface).run E.P w = .ok true w := by
  simp [Op.equalIn, run_underlying hd]

theorem ifcNil_sound (hE : E.Ok) {op : BinOp} {t' : SV} {ty : Nat} {x y : Operand} (hop : ifcNil (E.d ty) op s y = some (obs, t')) (hs : s.rel C v) :
    ∃ v', (do eqGuard op ty x y v (a.eval y); binOp op ty v (a.eval y)).run E.P w = .ok v' w ∧ t'.rel C v' := by
  have hd := hE.d ty
  unfold ifcNil at hop
  split at hop
  · rename_i t0 s0 e1
    rw [e1] at hd
    obtain ⟨m, hd⟩ := hd
    obtain ⟨u, rfl, _⟩ := hs
    cases hop
    have q : (Op.equal ty (.iface t0 u) .nilIface).run E.P w = .ok false w := nil_if hd 9999 u
    exact ⟨.bool false, by simp only [Act.eval, eqGuard, binOp, Sem.run_bind, Sem.run_pure]; simp only [Bool.not_true, Bool.not_false, Bool.false_eq_true, if_false, Bool.true_or, Bool.or_true, if_true, ite_true, Sem.run_pure, Result.andThen_ok, Sem.run_bind, q], rfl⟩
  · rename_i t0 s0 e1
    rw [e1] at hd
    obtain ⟨m, hd⟩ := hd
    obtain ⟨u, rfl, _⟩ := hs
    cases hop
    have q : (Op.equal ty (.iface t0 u) .nilIface).run E.P w = .ok false w := nil_if hd 9999 u
    exact ⟨.bool true, by simp only [Act.eval, eqGuard, binOp, Sem.run_bind, Sem.run_pure]; simp only [Bool.not_true, Bool.not_false, Bool.false_eq_true, if_false, Bool.true_or, Bool.or_true, if_true, ite_true, Sem.run_pure, Result.andThen_ok, Sem.run_bind, q], rfl⟩
  · rename_i e1
    rw [e1] at hd
    obtain ⟨m, hd⟩ := hd
    have hs : v = _ := hs
    subst hs
    cases hop
    have q : (Op.equal ty .nilIface .nilIface).run E.P w = .ok true w := nil_if0 hd 9999
    exact ⟨.bool true, by simp only [Act.eval, eqGuard, binOp, Sem.run_bind, Sem.run_pure]; simp only [Bool.not_true, Bool.not_false, Bool.false_eq_true, if_false, Bool.true_or, Bool.or_true, if_true, ite_true, Sem.run_pure, Result.andThen_ok, Sem.run_bind, q], rfl⟩
  · rename_i e1
    rw [e1] at hd
    obtain ⟨m, hd⟩ := hd
    have hs : v = _ := hs
    subst hs
    cases hop
    have q : (Op.equal ty .nilIface .nilIface).run E.P w = .ok true w := nil_if0 hd 9999
    exact ⟨.bool false, by simp only [Act.eval, eqGuard, binOp, Sem.run_bind, Sem.run_pure]; simp only [Bool.not_true, Bool.not_false, Bool.false_eq_true, if_false, Bool.true_or, Bool.or_true, if_true, ite_true, Sem.run_pure, Result.andThen_ok, Sem.run_bind, q], rfl⟩
  · rename_i b e1
    rw [e1] at hd
    obtain ⟨m, hd⟩ := hd
    cases hop
    rcases VRep_err.1 hs with ⟨rfl, rfl⟩ | ⟨rfl, t0, u, rfl⟩
    · have q : (Op.equal ty .nilIface .nilIface).run E.P w = .ok true w := nil_if0 hd 9999
      exact ⟨.bool true, by simp only [Act.eval, eqGuard, binOp, Sem.run_bind, Sem.run_pure]; simp only [Bool.not_true, Bool.not_false, Bool.false_eq_true, if_false, Bool.true_or, Bool.or_true, if_true, ite_true, Sem.run_pure, Result.andThen_ok, Sem.run_bind, q], VRep_bool.2 rfl⟩
    · have q : (Op.equal ty (.iface t0 u) .nilIface).run E.P w = .ok false w := nil_if hd 9999 u
      exact ⟨.bool false, by simp only [Act.eval, eqGuard, binOp, Sem.run_bind, Sem.run_pure]; simp only [Bool.not_true, Bool.not_false, Bool.false_eq_true, if_false, Bool.true_or, Bool.or_true, if_true, ite_true, Sem.run_pure, Result.andThen_ok, Sem.run_bind, q], VRep_bool.2 rfl⟩
  · rename_i b e1
    rw [e1] at hd
    obtain ⟨m, hd⟩ := hd
    cases hop
    rcases VRep_err.1 hs with ⟨rfl, rfl⟩ | ⟨rfl, t0, u, rfl⟩
    · have q : (Op.equal ty .nilIface .nilIface).run E.P w = .ok true w := nil_if0 hd 9999
      exact ⟨.bool false, by simp only [Act.eval, eqGuard, binOp, Sem.run_bind, Sem.run_pure]; simp only [Bool.not_true, Bool.not_false, Bool.false_eq_true, if_false, Bool.true_or, Bool.or_true, if_true, ite_true, Sem.run_pure, Result.andThen_ok, Sem.run_bind, q], VRep_bool.2 rfl⟩
    · have q : (Op.equal ty (.iface t0 u) .nilIface).run E.P w = .ok false w := nil_if hd 9999 u
      exact ⟨.bool true, by simp only [Act.eval, eqGuard, binOp, Sem.run_bind, Sem.run_pure]; simp only [Bool.not_true, Bool.not_false, Bool.false_eq_true, if_false, Bool.true_or, Bool.or_true, if_true, ite_true, Sem.run_pure, Result.andThen_ok, Sem.run_bind, q], VRep_bool.2 rfl⟩
  · cases hop

theorem assert_sound (hE : E.Ok) {s' : SV} {t xt : Nat} {ok : Bool} (hop : St.assert E s t ok = some (obs, s')) (hs : s.rel C v) : ∃ v', (Instr.typeAssert v xt t ok).run E.P w = .ok v' w ∧ s'.rel C v' := by
  have hd := hE.d t
  unfold St.assert at hop
  split at hop
  · cases hop
  · cases hop
  · rename_i u s0 h1 h2
    split at hop
    · rename_i e
      subst e
      cases hop
      obtain ⟨v0, rfl, h0⟩ := hs
      obtain ⟨un, hu⟩ : ∃ un, E.P.underlying u = some un := by
        cases hq : E.d u <;> rw [hq] at hd
        case oth => exact absurd hq h2
        case st fs => exact ⟨_, hd.1⟩
        case fn => obtain ⟨p, r, v, h⟩ := hd; exact ⟨_, h⟩
        case ifc => obtain ⟨m, h⟩ := hd; exact ⟨_, h⟩
        all_goals exact ⟨_, hd⟩
      have hni : ∀ m, un ≠ .interface m := by
        rintro m rfl
        cases hq : E.d u <;> rw [hq] at hd
        case oth => exact absurd hq h2
        case ifc => exact absurd hq h1
        case st fs => have := hd.1; rw [hu] at this; cases this
        case fn => obtain ⟨p, r, v, h⟩ := hd; rw [hu] at h; cases h
        all_goals (have hd : E.P.underlying u = _ := hd; rw [hu] at hd; cases hd)
      have hrun : (Instr.typeAssert (.iface u v0) xt u ok).run E.P w = .ok (if ok then .tuple #[v0, .bool true] else v0) w := by
        unfold Instr.typeAssert
        simp only [Sem.run_bind, run_underlying hu, Result.andThen_ok]
        cases un <;> first | (exact absurd rfl (hni _)) | (simp)
      refine ⟨_, hrun, ?_⟩
      cases ok
      · exact h0
      · exact ⟨[v0, .bool true], rfl, v0, _, rfl, h0, .bool true, [], rfl, rfl, rfl⟩
    · cases hop
  · cases hop

theorem joinIf_sound {c : Bool} {t t' : SV} {u : Value} (hop : joinIf c s t = some (obs, t')) (ho : ∀ p ∈ obs, p) (hs : s.rel C v) (ht : t.rel C u) : t'.rel C (if c then v else u) := by
  unfold joinIf at hop
  split at hop
  · rename_i oa ka x ob kb y e1 e2
    split at hop
    · rename_i h
      cases h
      cases hop
      cases c with
      | true =>
        have h1 := nb_rel (ug_rel hs (fun p hp => by
          have : p ∈ oa := by have := congrArg Prod.fst e1; dsimp only at this; rw [← this]; exact hp
          exact ho (true = true → p) (List.mem_append_left _ (List.mem_map.2 ⟨p, this, rfl⟩)) rfl))
        have := congrArg Prod.snd e1
        dsimp only at this
        rw [this] at h1
        exact h1
      | false =>
        have h1 := nb_rel (ug_rel ht (fun p hp => by
          have : p ∈ ob := by have := congrArg Prod.fst e2; dsimp only at this; rw [← this]; exact hp
          exact ho (false = false → p) (List.mem_append_right _ (List.mem_map.2 ⟨p, this, rfl⟩)) rfl))
        have := congrArg Prod.snd e2
        dsimp only at this
        rw [this] at h1
        exact h1
    · cases hop
  · cases hop

theorem un_sound {op : UnOp} {s' : SV} (hop : St.un op s = some (obs, s')) (hs : s.rel C v) : ∃ v', (Op.unary op v).run E.P w = .ok v' w ∧ s'.rel C v' := by
  unfold St.un at hop
  split at hop
  · cases hop
    have := VRep_bool.1 hs
    subst this
    exact ⟨_, rfl, VRep_bool.2 rfl⟩
  · cases hop
    have hs : v = _ := hs
    subst hs
    exact ⟨_, rfl, rfl⟩
  · cases hop
    obtain ⟨rfl, _⟩ := VRep_int.1 hs
    exact ⟨_, rfl, VRep_int.2 ⟨rfl, wrap_InR _ _⟩⟩
  · cases hop
    obtain ⟨rfl, _⟩ := VRep_int.1 hs
    exact ⟨_, rfl, VRep_int.2 ⟨rfl, wrap_InR _ _⟩⟩
  · cases hop

theorem bnd_sound (h : StRel B ρ st a fs w) {x : Option Operand} {o : List Prop} {l : Option Int} (hb : st.bnd x = some (o, l)) (ho : ∀ p ∈ o, p) : ∃ k, x.map a.eval = ints k l := by
  unfold St.bnd at hb
  split at hb
  · cases hb; exact ⟨.i64, rfl⟩
  · rename_i x
    split at hb
    · rename_i o' k n e
      cases hb
      have h1 := g_rel h x (by rw [e]; exact ho)
      rw [e] at h1
      obtain ⟨h2, _⟩ := VRep_int.1 h1
      exact ⟨k, by simp [ints, h2]⟩
    · cases hb

theorem evs_rel (h : StRel B ρ st a fs w) : ∀ l : List Operand, SV.rels (cx B ρ st.hp w) (l.map st.ev) (l.map a.eval)
  | [] => rfl
  | x :: l => ⟨_, _, rfl, ev_rel h x, evs_rel h l⟩

theorem op1_sound (hE : E.Ok) (h : StRel B ρ st a fs w) {o : Oper} (hop : st.op1 E o = some (obs, s)) (ho : ∀ p ∈ obs, p) :
    ∃ v, (execOp a.eval o).run E.P w = .ok (.value v) w ∧ s.rel (cx B ρ st.hp w) v := by
  have val : ∀ {m : Sem Value}, (∃ v, m.run E.P w = .ok v w ∧ s.rel (cx B ρ st.hp w) v) → ∃ v, (do pure (Next.value (← m)) : Sem Next).run E.P w = .ok (.value v) w ∧ s.rel (cx B ρ st.hp w) v := by
    intro m ⟨v, h1, h2⟩
    exact ⟨v, by simp only [Sem.run_bind, h1, Result.andThen_ok, Sem.run_pure], h2⟩
  unfold St.op1 at hop
  unfold execOp
  split at hop
  · rename_i x e; rw [e]; cases hop; exact ⟨_, rfl, ev_rel h x⟩
  · rename_i x e; rw [e]; cases hop; exact ⟨_, rfl, ev_rel h x⟩
  · rename_i c a' b e
    rw [e]
    dsimp only
    split at hop
    · rename_i o' c' e1
      obtain ⟨p, h1, rfl⟩ := addObs_eq hop
      have h2 := g_rel h c (by rw [e1]; exact fun p hp => ho p (List.mem_append_left _ hp))
      rw [e1] at h2
      have h3 := VRep_bool.1 h2
      refine ⟨_, by simp [h3]; rfl, joinIf_sound h1 (fun p hp => ho p (List.mem_append_right _ hp)) (ev_rel h a') (ev_rel h b)⟩
    · rename_i o' e1
      cases hop
      have h2 := g_rel h c (by rw [e1]; exact ho)
      rw [e1] at h2
      have h2 : a.eval c = _ := h2
      refine ⟨_, by simp [h2]; rfl, ev_rel h a'⟩
    · rename_i o' e1
      cases hop
      have h2 := g_rel h c (by rw [e1]; exact ho)
      rw [e1] at h2
      have h2 : a.eval c = _ := h2
      refine ⟨_, by simp [h2]; rfl, ev_rel h b⟩
    · cases hop
  · rename_i op ty x y _ e
    rw [e]
    dsimp only
    split at hop
    · rename_i o' s' h1
      cases hop
      exact val (ifcNil_sound hE h1 (g_rel h x ho))
    obtain ⟨p, h1, rfl⟩ := addObs_eq hop
    exact val (bin_sound hE h1 (fun p hp => ho p (List.mem_append_right _ hp)) (nb_rel (g_rel h x (fun p hp => ho p (List.mem_append_left _ (List.mem_append_left _ hp))))) (nb_rel (g_rel h y (fun p hp => ho p (List.mem_append_left _ (List.mem_append_right _ hp))))) x y)
  · rename_i x _ t ok e
    rw [e]
    dsimp only
    obtain ⟨p, h1, rfl⟩ := addObs_eq hop
    exact val (assert_sound hE h1 (g_rel h x (fun p hp => ho p (List.mem_append_left _ hp))))
  · rename_i op _ x e
    rw [e]
    dsimp only
    obtain ⟨p, h1, rfl⟩ := addObs_eq hop
    exact val (un_sound h1 (g_rel h x (fun p hp => ho p (List.mem_append_left _ hp))))
  · rename_i src dst x e
    rw [e]
    dsimp only
    obtain ⟨p, h1, rfl⟩ := addObs_eq hop
    exact val (conv_sound hE h h1 (fun p hp => ho p (List.mem_append_right _ hp)) (g_rel h x (fun p hp => ho p (List.mem_append_left _ hp))))
  · rename_i t x e
    rw [e]
    dsimp only
    obtain ⟨p, h1, rfl⟩ := addObs_eq hop
    exact val (load_sound hE h h1 (g_rel h x (fun p hp => ho p (List.mem_append_left _ hp))))
  · rename_i t x i e
    rw [e]
    dsimp only
    split at hop
    · rename_i o' k j e1
      obtain ⟨p, h1, rfl⟩ := addObs_eq hop
      have h2 := g_rel h i (by rw [e1]; exact fun p hp => ho p (List.mem_append_left _ (List.mem_append_right _ hp)))
      rw [e1] at h2
      obtain ⟨h3, _⟩ := VRep_int.1 h2
      rw [h3]
      exact val (indexAddr_sound hE h h1 (fun p hp => ho p (List.mem_append_right _ hp)) (g_rel h x (fun p hp => ho p (List.mem_append_left _ (List.mem_append_left _ hp)))))
    · cases hop
  · rename_i t x i e
    rw [e]
    dsimp only
    split at hop
    · rename_i o' k j e1
      obtain ⟨p, h1, rfl⟩ := addObs_eq hop
      have h2 := g_rel h i (by rw [e1]; exact fun p hp => ho p (List.mem_append_left _ (List.mem_append_right _ hp)))
      rw [e1] at h2
      obtain ⟨h3, _⟩ := VRep_int.1 h2
      rw [h3]
      exact val (index_sound hE h1 (fun p hp => ho p (List.mem_append_right _ hp)) (g_rel h x (fun p hp => ho p (List.mem_append_left _ (List.mem_append_left _ hp)))))
    · cases hop
  · rename_i t x lo hi e
    rw [e]
    dsimp only
    split at hop
    · rename_i o1 l o2 hh e1 e2
      obtain ⟨p, h1, rfl⟩ := addObs_eq hop
      obtain ⟨kl, h2⟩ := bnd_sound h e1 (fun p hp => ho p (List.mem_append_left _ (List.mem_append_right _ (List.mem_append_left _ hp))))
      obtain ⟨kh, h3⟩ := bnd_sound h e2 (fun p hp => ho p (List.mem_append_left _ (List.mem_append_right _ (List.mem_append_right _ hp))))
      rw [h2, h3]
      exact val (slice_sound hE h h1 (fun p hp => ho p (List.mem_append_right _ hp)) (g_rel h x (fun p hp => ho p (List.mem_append_left _ (List.mem_append_left _ hp)))))
    · cases hop
  · rename_i t x f e
    rw [e]
    dsimp only
    obtain ⟨p, h1, rfl⟩ := addObs_eq hop
    exact val (field_sound hE h1 (g_rel h x (fun p hp => ho p (List.mem_append_left _ hp))))
  · rename_i t x f e
    rw [e]
    dsimp only
    obtain ⟨p, h1, rfl⟩ := addObs_eq hop
    exact val (fieldAddr_sound hE h1 (g_rel h x (fun p hp => ho p (List.mem_append_left _ hp))))
  · rename_i x e
    obtain ⟨p, h1, rfl⟩ := addObs_eq hop
    have := nilCheck_sound (E := E) (w := w) h1 (g_rel h x (fun p hp => ho p (List.mem_append_left _ hp))) x o e rfl
    unfold execOp at this
    exact ⟨_, this⟩
  · rename_i x i e
    rw [e]
    dsimp only
    split at hop
    · rename_i o' l e1
      split at hop
      · rename_i s0 e2
        cases hop
        have h2 := g_rel h x (by rw [e1]; exact ho)
        rw [e1] at h2
        obtain ⟨vs, h3, h4⟩ := h2
        obtain ⟨v, h5, h6⟩ := rels_get h4 e2
        exact val ⟨v, by rw [h3]; simp [Instr.extract, h5], h6⟩
      · cases hop
    · cases hop
  · rename_i f first cap e
    rw [e]
    dsimp only
    split at hop
    · rename_i hf
      cases hop
      have hf : first = #[] := by simpa using hf
      subst hf
      refine val ⟨_, rfl, _, ?_, evs_rel h cap.toList⟩
      rw [← List.map_toArray, Array.toArray_toList, List.map_toArray, List.map_nil]
    · cases hop
  · rename_i t x e
    rw [e]
    dsimp only
    split at hop
    · rename_i hk
      cases hop
      have hd := hE.d t
      obtain ⟨u, hu⟩ := TD.known_some hd (TD.conc_known hk)
      refine val ⟨.iface t (a.eval x), ?_, _, rfl, ev_rel h x⟩
      simp only [Instr.makeInterface, Sem.run_bind, run_underlying hu, Result.andThen_ok]
      have : ∀ ms, u ≠ .interface ms := by
        intro ms e'
        subst e'
        cases hq : E.d t <;> rw [hq] at hd hk <;> simp only [TD.conc, Bool.false_eq_true] at hk
        case st l => have := hd.1; rw [hu] at this; cases this
        case fn => obtain ⟨p, r, vv, this⟩ := hd; rw [hu] at this; cases this
        all_goals (have hd : E.P.underlying t = _ := hd; rw [hu] at hd; cases hd)
      cases u <;> first | rfl | exact absurd rfl (this _)
    · cases hop
  · rename_i c e
    rw [e]
    dsimp only
    unfold St.op1Call at hop
    split at hop
    · rename_i x t e1 e2 e3
      obtain ⟨p, h1, rfl⟩ := addObs_eq hop
      have e2 : c.args = #[x] := by apply Array.ext'; simpa using e2
      have e3 : c.argTypes = #[t] := by apply Array.ext'; simpa using e3
      obtain ⟨v', h2, h3⟩ := len_sound (ty := o.type) hE h h1 (g_rel h x (fun p hp => ho p (List.mem_append_left _ hp)))
      refine ⟨v', ?_, h3⟩
      simp only [resolve, e1, e2, e3, Sem.run_bind, Sem.run_pure, Result.andThen_ok, invoke, builtin, List.map_toArray, List.map_cons, List.map_nil, h2]
    · rename_i _ x y e1 e2
      split at hop
      · rename_i o1 k n o2 k' m e3 e4
        split at hop
        · rename_i hk
          subst hk
          cases hop
          have h1 := g_rel h x (by rw [e3]; exact fun p hp => ho p (List.mem_append_left _ hp))
          have h2 := g_rel h y (by rw [e4]; exact fun p hp => ho p (List.mem_append_right _ hp))
          rw [e3] at h1
          rw [e4] at h2
          obtain ⟨h3, h5⟩ := VRep_int.1 h1
          obtain ⟨h4, h6⟩ := VRep_int.1 h2
          have e2 : c.args = #[x, y] := by apply Array.ext'; simpa using e2
          refine ⟨_, by simp only [resolve, e1, e2, Sem.run_bind, Sem.run_pure, Result.andThen_ok, invoke, builtin, List.map_toArray, List.map_cons, List.map_nil, h3, h4, run_min_int2], VRep_int.2 ⟨rfl, ?_⟩⟩
          split
          · exact h6
          · exact h5
        · cases hop
      · cases hop
    · rename_i _ x y e1 e2
      split at hop
      · rename_i o1 k n o2 k' m e3 e4
        split at hop
        · rename_i hk
          subst hk
          cases hop
          have h1 := g_rel h x (by rw [e3]; exact fun p hp => ho p (List.mem_append_left _ hp))
          have h2 := g_rel h y (by rw [e4]; exact fun p hp => ho p (List.mem_append_right _ hp))
          rw [e3] at h1
          rw [e4] at h2
          obtain ⟨h3, h5⟩ := VRep_int.1 h1
          obtain ⟨h4, h6⟩ := VRep_int.1 h2
          have e2 : c.args = #[x, y] := by apply Array.ext'; simpa using e2
          refine ⟨_, by simp only [resolve, e1, e2, Sem.run_bind, Sem.run_pure, Result.andThen_ok, invoke, builtin, List.map_toArray, List.map_cons, List.map_nil, h3, h4, run_max_int2], VRep_int.2 ⟨rfl, ?_⟩⟩
          split
          · exact h6
          · exact h5
        · cases hop
      · cases hop
    · cases hop
  · cases hop
end
end Go.Vc
end
section
/- A row that is written no more is data from then on. -/
namespace Go.Vc
open Go.RowKit

mutual
def SV.frz (n : Nat) (k : Kd) (xs : List k.T) : SV → SV
  | .own m => if m = n then .dat (.sl k) xs else .own m
  | .sub m k' off len => if m = n then (if k' = k then .dat (.sl k) ((xs.drop off).take len) else .junk) else .sub m k' off len
  | .rptr m => if m = n then .junk else .rptr m
  | .oel m k' i o => if m = n then .junk else .oel m k' i o
  | .fn f cap => .fn f (SV.frzs n k xs cap)
  | .tup l => .tup (SV.frzs n k xs l)
  | .agg l => .agg (SV.frzs n k xs l)
  | .ifc t s => .ifc t (SV.frz n k xs s)
  | .gd p s => .gd p (SV.frz n k xs s)
  | .dat k x => .dat k x
  | .cst c => .cst c
  | .ptr m o => .ptr m o
  | .adr k x => .adr k x
  | .yld => .yld
  | .aar k x => .aar k x
  | .junk => .junk
def SV.frzs (n : Nat) (k : Kd) (xs : List k.T) : List SV → List SV
  | [] => []
  | s :: l => SV.frz n k xs s :: SV.frzs n k xs l
end

def frzSlots (n : Nat) (k : Kd) (xs : List k.T) (sl : Slots) : Slots := sl.map fun p => (p.1, p.2.frz n k xs)

def Ob.frz (n : Nat) (k : Kd) (xs : List k.T) : Ob → Ob
  | .row e k' ys => .row e k' ys
  | .var t cs => .var t (SV.frzs n k xs cs)
  | .siter l pos => .siter l pos
  | .dfr => .dfr

def DE.frz (n : Nat) (k : Kd) (xs : List k.T) : DE → DE
  | .mark m => .mark m
  | .fn f cap => .fn f (SV.frzs n k xs cap)
def dfFrz (n : Nat) (k : Kd) (xs : List k.T) (l : List DE) : List DE := l.map (DE.frz n k xs)

def St.frz (st : St) (n : Nat) : St :=
  match st.row n with
  | some ⟨k, xs⟩ => { st with sl := frzSlots n k xs st.sl, stk := st.stk.map (fun p => (frzSlots n k xs p.1, dfFrz n k xs p.2)), df := dfFrz n k xs st.df, hp := (st.hp.set n none).map (Option.map (Ob.frz n k xs)) }
  | none => st

/-- What a row's handles are, once it is written no more. -/
structure Thaw (C C' : Cx) (n : Nat) (k : Kd) (xs : List k.T) : Prop where
  le : C.le C'
  row : ∃ (A : Option Addr) (c : Nat), C.ρ n = .slice A xs.length c ∧ xs.length ≤ c ∧ c ≤ 9223372036854775807 ∧ (A = none → c = 0 ∧ xs = []) ∧
    ∀ ad, A = some ad → ad.block < C'.w.heap.size ∧ ¬ C'.F ad.block ∧ Els C'.w (Rep C'.w C'.F k) k.sz ad xs

mutual
theorem SV.rel.frz {C C' : Cx} {n : Nat} {k : Kd} {xs : List k.T} (T : Thaw C C' n k xs) : ∀ {s : SV} {v : Value}, s.rel C v → (s.frz n k xs).rel C' v
  | .own m, v, h => by
    simp only [SV.frz]
    split
    · rename_i e
      subst e
      obtain ⟨A, c, h1, h2, h3, h4, h5⟩ := T.row
      refine VRep_sl.2 ⟨A, c, h.2.1.trans h1, h2, h3, fun hne => ?_⟩
      cases A with
      | none => exact absurd (h4 rfl).2 hne
      | some ad => obtain ⟨h6, h7, h8⟩ := h5 ad rfl; exact ⟨ad, rfl, h6, h7, h8⟩
    · exact SV.rel.le (s := .own m) T.le h
  | .sub m k' off len, v, h => by
    simp only [SV.frz]
    split
    · rename_i e
      subst e
      split
      · rename_i e
        subst e
        obtain ⟨A, c, h1, h2, h3, h4, h5⟩ := T.row
        obtain ⟨_, A0, m', cap, A', c', e1, rfl, h6, h7, h8, h9⟩ := h
        rw [h1] at e1
        simp only [Value.slice.injEq] at e1
        obtain ⟨rfl, rfl, rfl⟩ := e1
        have hlen : ((xs.drop off).take len).length = len := by simp; omega
        refine VRep_sl.2 ⟨A', c', by rw [hlen], by omega, by omega, fun hne => ?_⟩
        have hpos : 0 < ((xs.drop off).take len).length := List.length_pos_iff.2 hne
        cases A with
        | none => have := (h4 rfl).2; subst this; simp at h6; omega
        | some ad =>
          obtain ⟨h10, h11, h12⟩ := h5 ad rfl
          rcases h9 with rfl | h9
          · exact ⟨_, rfl, by rw [add_block]; exact h10, by rw [add_block]; exact h11, els_cut h12 _ _⟩
          · omega
      · trivial
    · exact SV.rel.le (s := .sub m k' off len) T.le h
  | .rptr m, v, h => by
    simp only [SV.frz]
    split
    · trivial
    · exact SV.rel.le (s := .rptr m) T.le h
  | .oel m k' i o, v, h => by
    simp only [SV.frz]
    split
    · trivial
    · exact SV.rel.le (s := .oel m k' i o) T.le h
  | .fn f cap, v, h => by obtain ⟨vs, e, h⟩ := h; exact ⟨vs, e, SV.rels.frz T h⟩
  | .tup l, v, h => by obtain ⟨vs, e, h⟩ := h; exact ⟨vs, e, SV.rels.frz T h⟩
  | .agg l, v, h => by obtain ⟨vs, e, h⟩ := h; exact ⟨vs, e, SV.rels.frz T h⟩
  | .ifc t s, v, h => by obtain ⟨u, e, h⟩ := h; exact ⟨u, e, SV.rel.frz T h⟩
  | .gd p s, v, h => ⟨fun hp => SV.rel.frz T (h.1 hp), h.2⟩
  | .dat k x, v, h => SV.rel.le (s := .dat k x) T.le h
  | .cst c, v, h => h
  | .ptr m o, v, h => SV.rel.le (s := .ptr m o) T.le h
  | .adr k x, v, h => SV.rel.le (s := .adr k x) T.le h
  | .yld, v, h => SV.rel.le (s := .yld) T.le h
  | .aar k x, v, h => SV.rel.le (s := .aar k x) T.le h
  | .junk, _, _ => trivial
theorem SV.rels.frz {C C' : Cx} {n : Nat} {k : Kd} {xs : List k.T} (T : Thaw C C' n k xs) : ∀ {l : List SV} {vs : List Value}, SV.rels C l vs → SV.rels C' (SV.frzs n k xs l) vs
  | [], _, h => h
  | s :: l, vs, h => by
    obtain ⟨v, r, e, h1, h2⟩ := h
    exact ⟨v, r, e, SV.rel.frz T h1, SV.rels.frz T h2⟩
end

theorem DRel.frz {C C' : Cx} {n : Nat} {k : Kd} {xs : List k.T} (T : Thaw C C' n k xs) : ∀ {l : List DE} {ds : List Deferred}, DRel C l ds → DRel C' (dfFrz n k xs l) ds
  | [], _, h => h
  | .mark m :: l, ds, h => by
    obtain ⟨b, r, e, h1, h2, h3⟩ := h
    exact ⟨b, r, e, Nat.lt_of_lt_of_le h1 T.le.N, by rw [T.le.ρ m h1]; exact h2, DRel.frz T h3⟩
  | .fn f cap :: l, ds, h => by
    obtain ⟨vs, r, e, h1, h2⟩ := h
    exact ⟨vs, r, e, SV.rels.frz T h1, DRel.frz T h2⟩

theorem lookup_frz {n : Nat} {k : Kd} {xs : List k.T} {i : Nat} : ∀ {sl : Slots}, (frzSlots n k xs sl).lookup i = (sl.lookup i).map (SV.frz n k xs)
  | [] => rfl
  | (j, s) :: sl => by
    show List.lookup i ((j, s.frz n k xs) :: frzSlots n k xs sl) = _
    rw [lookup_cons, lookup_cons]
    split
    · rfl
    · exact lookup_frz

theorem StRel.frz {B : Base} {ρ : Nat → Value} {st : St} {a : Act} {fs : List Act} {w : World} (h : StRel B ρ st a fs w) (n : Nat) : StRel B ρ (st.frz n) a fs w := by
  unfold St.frz
  split
  · rename_i k xs hrow
    obtain ⟨e, he⟩ := St.row_some hrow
    obtain ⟨A, c, h1, h2, h3, h4, h5⟩ := row_rel (h.h.obj n _ he)
    have live' : ∀ m, live ((st.hp.set n none).map (Option.map (Ob.frz n k xs))) m → live st.hp m ∧ m ≠ n := by
      rintro m ⟨o, ho⟩
      rw [List.getElem?_map] at ho
      obtain ⟨o1, ho1, ho2⟩ := Option.map_eq_some_iff.1 ho
      by_cases hm : m = n
      · subst hm
        rw [List.getElem?_set] at ho1
        split at ho1
        · split at ho1
          · cases ho1; cases ho2
          · cases ho1
        · rename_i hc; exact absurd rfl hc
      · rw [List.getElem?_set_ne (Ne.symm hm)] at ho1
        obtain ⟨o2, rfl, _⟩ := Option.map_eq_some_iff.1 ho2
        exact ⟨⟨o2, ho1⟩, hm⟩
    have hle : (cx B ρ st.hp w).le (cx B ρ ((st.hp.set n none).map (Option.map (Ob.frz n k xs))) w) := ⟨Nat.le_refl _, fun _ _ _ => rfl, fun b _ hF => by
        rcases hF with hF | ⟨m, hm, hb⟩
        · exact .inl hF
        · exact .inr ⟨m, (live' m hm).1, hb⟩, by simp, fun _ _ => rfl, rfl⟩
    have T : Thaw (cx B ρ st.hp w) (cx B ρ ((st.hp.set n none).map (Option.map (Ob.frz n k xs))) w) n k xs := ⟨hle, A, c, h1, h2, h3, h4, fun ad hA => by
      obtain ⟨_, _, h6, h7, _⟩ := h5 ad hA
      have hbn : blk (ρ n) = some ad.block := by rw [h1, hA]; rfl
      refine ⟨h6, fun hF => ?_, h7.imp (fun x _ cs hr => hr.step hle.size hle.same hle.F) fun j u hu => hu⟩
      rcases hF with hF | ⟨m, hm, hb⟩
      · exact (h.h.own n _ ⟨_, he⟩ hbn).2 hF
      · obtain ⟨hm1, hm2⟩ := live' m hm
        exact hm2 (h.h.sep m n _ hm1 ⟨_, he⟩ hb hbn)⟩
    refine ⟨⟨h.h.kept, fun m o ho => ?_, fun a b c ha hb => h.h.sep a b c (live' a ha).1 (live' b hb).1, fun m b hm => h.h.own m b (live' m hm).1, h.h.fb⟩, ⟨h.s.1, fun i s hs => ?_⟩, h.kn, ?_, h.d.frz T, h.g⟩
    · have hl := live' m ⟨o, ho⟩
      rw [List.getElem?_map] at ho
      obtain ⟨o1, ho1, ho2⟩ := Option.map_eq_some_iff.1 ho
      rw [List.getElem?_set_ne (Ne.symm hl.2)] at ho1
      obtain ⟨o2, rfl, rfl⟩ := Option.map_eq_some_iff.1 ho2
      have hr := h.h.obj m o2 ho1
      cases o2 with
      | row e' k' ys => exact hr.le hle (fun _ _ => rfl)
      | var t cs =>
        obtain ⟨b, vs, e1, h6, h7⟩ := hr
        exact ⟨b, vs, e1, h6, SV.rels.frz T h7⟩
      | siter l pos => exact hr.le hle (fun _ _ => rfl)
      | dfr => exact hr.le hle (fun _ _ => rfl)
    · rw [lookup_frz] at hs
      obtain ⟨s0, hs0, rfl⟩ := Option.map_eq_some_iff.1 hs
      exact ⟨(h.s.2 i s0 hs0).1, SV.rel.frz T (h.s.2 i s0 hs0).2⟩
    · have : ∀ {l : List (Slots × List DE)} {fs : List Act}, StkRel (cx B ρ st.hp w) l fs → StkRel (cx B ρ ((st.hp.set n none).map (Option.map (Ob.frz n k xs))) w) (l.map (fun p => (frzSlots n k xs p.1, dfFrz n k xs p.2))) fs := by
        intro l
        induction l with
        | nil => intro fs h; exact h
        | cons sl l ih =>
          rintro fs ⟨t, r, e, h6, h8, h7⟩
          refine ⟨t, r, e, ⟨h6.1, fun i s hs => ?_⟩, h8.frz T, ih h7⟩
          rw [lookup_frz] at hs
          obtain ⟨s0, hs0, rfl⟩ := Option.map_eq_some_iff.1 hs
          exact ⟨(h6.2 i s0 hs0).1, SV.rel.frz T (h6.2 i s0 hs0).2⟩
      exact this h.k
  · exact h

/-- The same, for values that stand beside the state. -/
theorem StRel.thaw {B : Base} {ρ : Nat → Value} {st : St} {a : Act} {fs : List Act} {w : World} (h : StRel B ρ st a fs w) {n : Nat} {k : Kd} {xs : List k.T} (hrow : st.row n = some ⟨k, xs⟩) :
    Thaw (cx B ρ st.hp w) (cx B ρ ((st.hp.set n none).map (Option.map (Ob.frz n k xs))) w) n k xs := by
  obtain ⟨e, he⟩ := St.row_some hrow
  obtain ⟨A, c, h1, h2, h3, h4, h5⟩ := row_rel (h.h.obj n _ he)
  have live' : ∀ m, live ((st.hp.set n none).map (Option.map (Ob.frz n k xs))) m → live st.hp m ∧ m ≠ n := by
    rintro m ⟨o, ho⟩
    rw [List.getElem?_map] at ho
    obtain ⟨o1, ho1, ho2⟩ := Option.map_eq_some_iff.1 ho
    by_cases hm : m = n
    · subst hm
      rw [List.getElem?_set] at ho1
      split at ho1
      · split at ho1
        · cases ho1; cases ho2
        · cases ho1
      · rename_i hc; exact absurd rfl hc
    · rw [List.getElem?_set_ne (Ne.symm hm)] at ho1
      obtain ⟨o2, rfl, _⟩ := Option.map_eq_some_iff.1 ho2
      exact ⟨⟨o2, ho1⟩, hm⟩
  have hle : (cx B ρ st.hp w).le (cx B ρ ((st.hp.set n none).map (Option.map (Ob.frz n k xs))) w) := ⟨Nat.le_refl _, fun _ _ _ => rfl, fun b _ hF => by
      rcases hF with hF | ⟨m, hm, hb⟩
      · exact .inl hF
      · exact .inr ⟨m, (live' m hm).1, hb⟩, by simp, fun _ _ => rfl, rfl⟩
  exact ⟨hle, A, c, h1, h2, h3, h4, fun ad hA => by
    obtain ⟨_, _, h6, h7, _⟩ := h5 ad hA
    have hbn : blk (ρ n) = some ad.block := by rw [h1, hA]; rfl
    refine ⟨h6, fun hF => ?_, h7.imp (fun x _ cs hr => hr.step hle.size hle.same hle.F) fun j u hu => hu⟩
    rcases hF with hF | ⟨m, hm, hb⟩
    · exact (h.h.own n _ ⟨_, he⟩ hbn).2 hF
    · obtain ⟨hm1, hm2⟩ := live' m hm
      exact hm2 (h.h.sep m n _ hm1 ⟨_, he⟩ hb hbn)⟩
end Go.Vc
end
section
/- Operations that make memory or write it. -/
namespace Go.Vc
open Go.RowKit

/-- What an operation that hands back a value leaves. -/
def Yield (E : Ty) (B : Base) (o : Oper) (a : Act) (fs : List Act) (w : World) (kv : SV → St → Prop) : Prop :=
  ∃ n w' s st' ρ' v, (execOp a.eval o).run E.P w = .ok n w' ∧ (n = .value v ∨ (n = .skip ∧ v = undef)) ∧ kv s st' ∧ StRel B ρ' st' a fs w' ∧ s.rel (cx B ρ' st'.hp w') v

def asList (k : Kd) : List SV → Option (List k.T)
  | [] => some []
  | s :: l => match s.as k, asList k l with
    | some x, some xs => some (x :: xs)
    | _, _ => none

/-- A new variable: a row where it is an array of plain elements. -/
def newOb (E : Ty) (t : Nat) (l : List SV) : Ob :=
  match E.d t with
  | .arr m e => match E.k e with
    | some k => if k.isAgg = false ∧ l.length = m then
        match asList k l with
        | some xs => .row t k xs
        | none => .var t l
      else .var t l
    | none => .var t l
  | _ => .var t l

def obSV (n : Nat) : Ob → SV
  | .row _ _ _ => .rptr n
  | _ => .ptr n 0

section
variable {E : Ty} {B : Base} {ρ : Nat → Value} {st : St} {a : Act} {fs : List Act} {w : World} {kv : SV → St → Prop} {C : Cx}

theorem asList_rel {k : Kd} (hk : k.isAgg = false) : ∀ {l : List SV} {xs : List k.T} {vs : List Value}, asList k l = some xs → SV.rels C l vs →
    xs.length = l.length ∧ ∀ (i : Nat) (x : k.T), xs[i]? = some x → ∃ v, vs[i]? = some v ∧ Rep C.w C.F k x [v]
  | [], xs, vs, h, hr => by cases h; exact ⟨rfl, fun i x hx => by cases hx⟩
  | s :: l, xs, vs, h, hr => by
    simp only [asList] at h
    split at h
    · rename_i y ys e1 e2
      cases h
      obtain ⟨v, r, rfl, h1, h2⟩ := hr
      obtain ⟨h3, h4⟩ := asList_rel hk e2 h2
      refine ⟨by simp [h3], fun i x hx => ?_⟩
      cases i with
      | zero => cases hx; exact ⟨v, rfl, (VRep_one hk).1 (as_rel e1 h1)⟩
      | succ i => exact h4 i x hx
    · cases h

/-- A block with the cells of a new variable. -/
theorem new_sound (h : StRel B ρ st a fs w) (t : Nat) {l : List SV} {cells : Array Value} (hl : SV.rels (cx B ρ st.hp w) l cells.toList) (hlen : l.length ≤ 9223372036854775807) :
    ∃ ρ', StRel B ρ' { st with hp := st.hp ++ [some (newOb E t l)] } a fs (w.alloc (.cells cells t)) ∧
      (obSV st.hp.length (newOb E t l)).rel (cx B ρ' (st.hp ++ [some (newOb E t l)]) (w.alloc (.cells cells t))) (.pointer (some ⟨w.heap.size, 0, none⟩)) := by
  have hh : (w.alloc (.cells cells t)).heap[w.heap.size]? = some (.cells cells t (0, 0)) := heap_alloc_new w _
  have hcs : cells.size = l.length := by have := rels_length hl; simpa using this
  have var_ : ∃ ρ', StRel B ρ' { st with hp := st.hp ++ [some (.var t l)] } a fs (w.alloc (.cells cells t)) ∧
      (SV.ptr st.hp.length 0).rel (cx B ρ' (st.hp ++ [some (.var t l)]) (w.alloc (.cells cells t))) (.pointer (some ⟨w.heap.size, 0, none⟩)) := by
    have T : Turn B ρ (upd ρ st.hp.length (.pointer (some ⟨w.heap.size, 0, none⟩))) st.hp (st.hp ++ [some (.var t l)]) w (w.alloc (.cells cells t)) st.hp.length none :=
      Turn.new (World.grownBy_alloc w _ none) (fun b hb => by cases hb; exact Nat.le_refl _)
    refine ⟨_, h.turn T (fun o ho => ?_), by simp, w.heap.size, upd_same _ _ _, rfl⟩
    rw [getElem?_snoc] at ho
    cases ho
    rw [upd_same]
    exact ⟨w.heap.size, cells.toList, rfl, by simpa using hh, SV.rels.le T.le hl⟩
  unfold newOb
  split
  · rename_i m e _
    split
    · rename_i k _
      split
      · rename_i hk
        obtain ⟨hk, hm⟩ := hk
        split
        · rename_i xs hx
          have h1 := sz_one hk
          have T : Turn B ρ (upd ρ st.hp.length (.slice (some ⟨w.heap.size, 0, none⟩) l.length l.length)) st.hp (st.hp ++ [some (.row t k xs)]) w (w.alloc (.cells cells t)) st.hp.length none :=
            Turn.new (World.grownBy_alloc w _ none) (fun b hb => by cases hb; exact Nat.le_refl _)
          obtain ⟨h2, h3⟩ := asList_rel hk hx (SV.rels.le T.le hl)
          refine ⟨_, h.turn T (fun o ho => ?_), by simp, w.heap.size, l.length, l.length, upd_same _ _ _, rfl, rfl⟩
          rw [getElem?_snoc] at ho
          cases ho
          rw [upd_same]
          refine ⟨cells.toList, ?_, fun i x hi => ?_⟩
          · rw [h2, h1]
            exact .inl <| World.ownsRow_lit w cells l.length (Nat.zero_le _) (by simpa [maxLen] using hlen) (by rw [hcs]; omega)
          · obtain ⟨v, h4, h5⟩ := h3 i x hi
            rw [h1, Nat.mul_one]
            have : (cells.toList.drop i).take 1 = [v] := by
              have hi' : i < cells.toList.length := (List.getElem?_eq_some_iff.1 h4).1
              rw [List.drop_eq_getElem_cons hi']
              simp [(List.getElem?_eq_some_iff.1 h4).2]
            rw [this]; exact h5
        · exact var_
      · exact var_
    · exact var_
  · exact var_

def St.box (E : Ty) (st : St) (t : Nat) (s : SV) (kv : SV → St → Prop) : Prop :=
  match s.cells with
  | some l => l.length ≤ 65536 ∧ kv (obSV st.hp.length (newOb E t l)) { st with hp := st.hp ++ [some (newOb E t l)] }
  | none => False

theorem box_sound (h : StRel B ρ st a fs w) {t : Nat} {x : Operand} {o : Oper} (e : o.op = .box t x) (hk : st.box E t (st.ev x) kv) : Yield E B o a fs w kv := by
  unfold St.box at hk
  split at hk
  · rename_i l hl
    have hr := cells_rel hl (ev_rel h x)
    obtain ⟨ρ', h1, h2⟩ := new_sound (E := E) h t hr (by omega)
    refine ⟨_, _, _, _, ρ', _, ?_, .inl rfl, hk.2, h1, h2⟩
    unfold execOp
    rw [e]
    simp only [Instr.box, newVar, newRow, Sem.run_bind, run_newObj_alloc, Result.andThen_ok, Sem.run_pure]
  · exact hk.elim

def St.alloc (E : Ty) (st : St) (t : Nat) (kv : SV → St → Prop) : Prop :=
  match E.z t with
  | some z => z.length ≤ 65536 ∧ kv (obSV st.hp.length (newOb E t (z.map cSV))) { st with hp := st.hp ++ [some (newOb E t (z.map cSV))] }
  | none => False

theorem cSVs_rel (C : Cx) : ∀ z : List Value, SV.rels C (z.map cSV) z
  | [] => rfl
  | v :: z => ⟨v, z, rfl, cSV_rel C v, cSVs_rel C z⟩

theorem alloc_sound (hE : E.Ok) (h : StRel B ρ st a fs w) {t : Nat} {o : Oper} (e : o.op = .alloc t) (hk : st.alloc E t kv) : Yield E B o a fs w kv := by
  unfold St.alloc at hk
  split at hk
  · rename_i z hz
    obtain ⟨inf, zv, h3, h4, h5, _⟩ := hE.z hz
    obtain ⟨ρ', h1, h2⟩ := new_sound (E := E) h t (cells := zv.cells) (by rw [h5]; exact cSVs_rel _ z) (by simp; omega)
    refine ⟨_, _, _, _, ρ', _, ?_, .inl rfl, hk.2, h1, h2⟩
    unfold execOp
    rw [e]
    simp [Instr.alloc, zeroValue, typeInfo, h3, h4, newVar, newRow]
  · exact hk.elim
end

/-! ### Parts -/
def fillSV (place : Nat → Option (Nat × Nat)) (l : List SV) : List (Nat × SV) → Option (List SV)
  | [] => some l
  | (i, s) :: rest => match place i, s.cells with
    | some (off, size), some c => if c.length = size ∧ off + size ≤ l.length then fillSV place (l.take off ++ c ++ l.drop (off + size)) rest else none
    | _, _ => none

theorem set_fold (off : Nat) : ∀ (vs : List Value) (k : Nat) (cs : List Value), off + k + vs.length ≤ cs.length →
    (vs.zipIdx k).foldl (fun (cs : List Value) (p : Value × Nat) => cs.set (off + p.2) p.1) cs = cs.take (off + k) ++ vs ++ cs.drop (off + k + vs.length)
  | [], k, cs, h => by simp
  | v :: vs, k, cs, h => by
    simp only [List.zipIdx_cons, List.foldl_cons]
    rw [set_fold off vs (k + 1) _ (by simp only [List.length_set, List.length_cons] at *; omega)]
    have h0 : off + k < cs.length := by simp only [List.length_cons] at h; omega
    have e1 : (cs.set (off + k) v).take (off + (k + 1)) = cs.take (off + k) ++ [v] := by
      rw [← Nat.add_assoc, List.take_succ_eq_append_getElem (by simpa using h0)]
      simp [List.take_set_of_le]
    have e2 : (cs.set (off + k) v).drop (off + (k + 1) + vs.length) = cs.drop (off + k + (v :: vs).length) := by
      rw [List.drop_set_of_lt (by omega)]
      congr 1
      simp only [List.length_cons]; omega
    rw [e1, e2]
    simp

theorem fold_toList (off : Nat) (vs : Array Value) (cs : Array Value) (h : off + vs.size ≤ cs.size) :
    (vs.zipIdx.foldl (fun (cs : Array Value) (p : Value × Nat) => cs.setIfInBounds (off + p.2) p.1) cs).toList = cs.toList.take off ++ vs.toList ++ cs.toList.drop (off + vs.size) := by
  have key : ∀ (l : List (Value × Nat)) (cs : Array Value), (l.foldl (fun (cs : Array Value) (p : Value × Nat) => cs.setIfInBounds (off + p.2) p.1) cs).toList = l.foldl (fun (cs : List Value) (p : Value × Nat) => cs.set (off + p.2) p.1) cs.toList := by
    intro l
    induction l with
    | nil => intro cs; rfl
    | cons p l ih => intro cs; simp only [List.foldl_cons]; rw [ih]; simp
  rw [← Array.foldl_toList, key, Array.toList_zipIdx]
  have := set_fold off vs.toList 0 cs.toList (by simpa using h)
  simpa using this

inductive PartsRel (C : Cx) : List (Nat × SV) → List (Nat × Value) → Prop
  | nil : PartsRel C [] []
  | cons {i : Nat} {s : SV} {v : Value} {l : List (Nat × SV)} {r : List (Nat × Value)} (h : s.rel C v) (t : PartsRel C l r) : PartsRel C ((i, s) :: l) ((i, v) :: r)

theorem fill_rel {C : Cx} {place : Nat → Option (Nat × Nat)} : ∀ {parts : List (Nat × SV)} {ps : List (Nat × Value)} {l l' : List SV} {cells : Array Value}, PartsRel C parts ps → fillSV place l parts = some l' → SV.rels C l cells.toList →
    ∃ cells', Instr.fill place cells ps = some cells' ∧ SV.rels C l' cells'.toList
  | [], _, l, l', cells, hp, h, hr => by cases hp; cases h; exact ⟨cells, rfl, hr⟩
  | (i, s) :: rest, _, l, l', cells, hp, h, hr => by
    cases hp with
    | cons hs ht =>
      rename_i v r
      simp only [fillSV] at h
      split at h
      · rename_i off size c e1 e2
        split at h
        · rename_i hc
          have hcr := cells_rel e2 hs
          have hlen := rels_length hcr
          have hlen2 := rels_length hr
          simp only [Array.length_toList] at hlen hlen2
          have h1 : ¬ (v.cells.size ≠ size || off + v.cells.size > cells.size) = true := by
            simp only [Bool.or_eq_true, decide_eq_true_eq, not_or]
            omega
          refine (fill_rel (cells := v.cells.zipIdx.foldl (fun cs (c, j) => cs.setIfInBounds (off + j) c) cells) ht h ?_).imp fun cells' hh => ⟨?_, hh.2⟩
          · have := fold_toList off v.cells cells (by omega)
            rw [show (v.cells.zipIdx.foldl (fun cs (c, j) => cs.setIfInBounds (off + j) c) cells).toList = _ from this]
            refine rels_append (rels_append (rels_take off hr) hcr) ?_
            rw [hlen, hc.1]
            exact rels_drop _ hr
          · simp only [Instr.fill, e1]
            rw [if_neg h1]
            exact hh.1
        · cases h
      · cases h

def ownName : SV → Option Nat
  | .own n => some n
  | .sub n _ _ _ => some n
  | _ => none

/-- Rows that are handed into a value are written no more. -/
def St.frzOps (st : St) : List Operand → St
  | [] => st
  | x :: l => match ownName (st.ev x) with
    | some n => (st.frz n).frzOps l
    | none => st.frzOps l

theorem frzOps_rel {B : Base} {ρ : Nat → Value} {a : Act} {fs : List Act} {w : World} : ∀ (l : List Operand) {st : St}, StRel B ρ st a fs w → StRel B ρ (st.frzOps l) a fs w
  | [], _, h => h
  | x :: l, st, h => by
    simp only [St.frzOps]
    split
    · exact frzOps_rel l (h.frz _)
    · exact frzOps_rel l h

def placesOf (E : Ty) : List (Nat × Nat) → Option (List (Nat × Nat))
  | [] => some []
  | (ft, off) :: l => match E.sz ft, placesOf E l with
    | some z, some r => some ((off, z) :: r)
    | _, _ => none

def St.build (E : Ty) (st0 : St) (t : Nat) (parts : List (Nat × Operand)) (kv : SV → St → Prop) : Prop :=
  let st := st0.frzOps (parts.map (·.2))
  match E.d t, E.z t with
  | .st fs, some z => match placesOf E fs with
    | some pl => match fillSV (fun i => pl[i]?) (z.map cSV) (parts.map fun p => (p.1, st.ev p.2)) with
      | some l => match ofCells E t l with
        | some s => kv s st
        | none => False
      | none => False
    | none => False
  | .arr _ e, some z => match E.sz e with
    | some n => match fillSV (fun i => some (i * n, n)) (z.map cSV) (parts.map fun p => (p.1, st.ev p.2)) with
      | some l => match ofCells E t l with
        | some s => kv s st
        | none => False
      | none => False
    | none => False
  | _, _ => False

section
variable {E : Ty} {B : Base} {ρ : Nat → Value} {st : St} {a : Act} {fs : List Act} {w : World} {kv : SV → St → Prop} {C : Cx}

theorem parts_rel (h : StRel B ρ st a fs w) : ∀ l : List (Nat × Operand), PartsRel (cx B ρ st.hp w) (l.map fun p => (p.1, st.ev p.2)) (l.map fun p => (p.1, a.eval p.2))
  | [] => .nil
  | (_, x) :: l => .cons (ev_rel h x) (parts_rel h l)

theorem places_of (hE : E.Ok) : ∀ {l : List Field} {pl : List (Nat × Nat)}, placesOf E (l.map fun f => (f.type, f.offset)) = some pl → l.mapM (fun f => (E.P.info? f.type).map fun i => (f.offset, i.size)) = some pl
  | [], pl, h => by cases h; rfl
  | f :: l, pl, h => by
    simp only [List.map_cons, placesOf] at h
    split at h
    · rename_i z r e1 e2
      cases h
      obtain ⟨inf, h1, h2, _⟩ := hE.sz e1
      simp [List.mapM_cons, h1, h2, places_of hE e2]
    · cases h

theorem build_sound (hE : E.Ok) (h : StRel B ρ st a fs w) {t : Nat} {parts : Array (Nat × Operand)} {o : Oper} (e : o.op = .build t parts) (hk : st.build E t parts.toList kv) : Yield E B o a fs w kv := by
  have h0 := frzOps_rel (parts.toList.map (·.2)) h
  unfold St.build at hk
  simp only at hk
  generalize st.frzOps (parts.toList.map (·.2)) = st1 at h0 hk
  have hd := hE.d t
  have fin : ∀ {cells : Array Value} {l : List SV} {s : SV}, E.P.built t (parts.map fun (i, x) => (i, a.eval x)).toList = some cells → SV.rels (cx B ρ st1.hp w) l cells.toList → ofCells E t l = some s → (E.d t).isAgg = true → kv s st1 → Yield E B o a fs w kv := by
    intro cells l s h1 h2 h3 h4 h5
    obtain ⟨_, _, _, h6⟩ := ofCells_rel hE h3 h2
    rw [h4] at h6
    simp only [if_true] at h6
    refine ⟨_, w, s, st1, ρ, .agg cells, ?_, .inl rfl, h5, h0, by simpa using h6⟩
    unfold execOp
    rw [e]
    simp only [Sem.run_bind, run_build w t _ cells h1, Result.andThen_ok, Sem.run_pure]
  split at hk
  · rename_i fs' z e1 e2
    rw [e1] at hd
    obtain ⟨hd, hfs⟩ := hd
    obtain ⟨inf, zv, h3, h4, h5, _⟩ := hE.z e2
    split at hk
    · rename_i pl e3
      split at hk
      · rename_i l e4
        split at hk
        · rename_i s e5
          rw [← hfs] at e3
          have hp := places_of hE e3
          obtain ⟨cells, h6, h7⟩ := fill_rel (cells := zv.cells) (parts_rel h0 parts.toList) e4 (by rw [h5]; exact cSVs_rel _ z)
          refine fin ?_ h7 e5 (by rw [e1]; rfl) hk
          unfold Program.built
          simp only [h3, hd, h4, hp]
          rw [Array.toList_map]
          have : (fun (x : Nat) => pl.toArray[x]?) = fun i => pl[i]? := by funext i; simp
          rw [this]; exact h6
        · exact hk.elim
      · exact hk.elim
    · exact hk.elim
  · rename_i m e' z e1 e2
    rw [e1] at hd
    have hd : E.P.underlying t = some (.array m e') := hd
    obtain ⟨inf, zv, h3, h4, h5, _⟩ := hE.z e2
    split at hk
    · rename_i n e3
      obtain ⟨ie, h8, h9, _⟩ := hE.sz e3
      split at hk
      · rename_i l e4
        split at hk
        · rename_i s e5
          obtain ⟨cells, h6, h7⟩ := fill_rel (cells := zv.cells) (parts_rel h0 parts.toList) e4 (by rw [h5]; exact cSVs_rel _ z)
          refine fin ?_ h7 e5 (by rw [e1]; rfl) hk
          unfold Program.built
          simp only [h3, hd, h4, h8, h9]
          rw [Array.toList_map]
          exact h6
        · exact hk.elim
      · exact hk.elim
    · exact hk.elim
  · exact hk.elim
end

/-! ### Rows -/
/-- Elements out of values. -/
def asElems (k : Kd) : List SV → Option (List k.T)
  | [] => some []
  | s :: l => match s.cells with
    | some c => match unleaf k c, asElems k l with
      | some (x, []), some xs => some (x :: xs)
      | _, _ => none
    | none => none

def St.buildSlice (E : Ty) (st0 : St) (t n : Nat) (parts : List (Nat × Operand)) (kv : SV → St → Prop) : Prop :=
  let st := st0.frzOps (parts.map (·.2))
  match E.d t with
  | .sl e => match E.k e with
    | some k => if parts.map (·.1) = List.range n ∧ n ≤ 65536 ∧ n * k.sz ≤ 65536 then
        match asElems k (parts.map fun p => st.ev p.2) with
        | some xs => kv (.own st.hp.length) { st with hp := st.hp ++ [some (.row e k xs)] }
        | none => False
      else False
    | none => False
  | _ => False

section
variable {E : Ty} {B : Base} {ρ : Nat → Value} {st : St} {a : Act} {fs : List Act} {w : World} {kv : SV → St → Prop} {C : Cx}

theorem asElems_rel {k : Kd} : ∀ {l : List SV} {xs : List k.T} {vs : List Value}, asElems k l = some xs → SV.rels C l vs →
    xs.length = l.length ∧ (∀ v ∈ vs, v.cells.size = k.sz) ∧ ∀ (i : Nat) (x : k.T), xs[i]? = some x → ∃ v, vs[i]? = some v ∧ Rep C.w C.F k x v.cells.toList
  | [], xs, vs, h, hr => by
    have hr : vs = [] := hr
    subst hr
    cases h; exact ⟨rfl, (fun v hv => by cases hv), fun i x hx => by cases hx⟩
  | s :: l, xs, vs, h, hr => by
    simp only [asElems] at h
    split at h
    · rename_i c e1
      split at h
      · rename_i y ys e2 e3
        cases h
        obtain ⟨v, r, rfl, h1, h2⟩ := hr
        obtain ⟨h3, h5, h4⟩ := asElems_rel e3 h2
        have h6 := unleaf_all e2 (cells_rel e1 h1)
        refine ⟨by simp [h3], fun u hu => ?_, fun i x hx => ?_⟩
        · rcases List.mem_cons.1 hu with rfl | hu
          · simpa using h6.length
          · exact h5 u hu
        · cases i with
          | zero => cases hx; exact ⟨v, rfl, h6⟩
          | succ i => exact h4 i x hx
      · cases h
    · cases h

theorem splice_eq (A V D F : List Value) (p m : Nat) (h : (A ++ V).length = p) : (A ++ V ++ D).take p ++ F ++ (A ++ V ++ D).drop (p + m) = A ++ (V ++ F) ++ D.drop m := by
  subst h
  rw [List.take_left, List.drop_append]
  simp

/-- Parts in a row, one behind the other. -/
theorem fill_row (z : Nat) : ∀ (vs : List Value) (k : Nat) (cells : Array Value), (∀ v ∈ vs, v.cells.size = z) → (k + vs.length) * z ≤ cells.size →
    ∃ cells', Instr.fill (fun i => some (i * z, z)) cells ((List.range' k vs.length).zip vs) = some cells' ∧ cells'.toList = cells.toList.take (k * z) ++ (vs.map fun v => v.cells.toList).flatten ++ cells.toList.drop ((k + vs.length) * z)
  | [], k, cells, _, _ => ⟨cells, rfl, by simp⟩
  | v :: vs, k, cells, hz, hl => by
    have hv := hz v (by simp)
    simp only [List.length_cons, List.range'_succ, List.zip_cons_cons, Instr.fill]
    have hm : (k + (vs.length + 1)) * z = k * z + z + vs.length * z := by rw [Nat.add_mul, Nat.add_mul, Nat.one_mul]; omega
    simp only [List.length_cons] at hl
    have hm2 : (k + 1 + vs.length) * z = k * z + z + vs.length * z := by rw [Nat.add_mul, Nat.add_mul, Nat.one_mul]
    have hm3 : (k + 1) * z = k * z + z := by rw [Nat.add_mul, Nat.one_mul]
    have h1 : ¬ (v.cells.size ≠ z || k * z + v.cells.size > cells.size) = true := by
      simp only [Bool.or_eq_true, decide_eq_true_eq, not_or]
      omega
    rw [if_neg h1]
    have ht := fold_toList (k * z) v.cells cells (by omega)
    have hsz : (v.cells.zipIdx.foldl (fun cs (c, j) => cs.setIfInBounds (k * z + j) c) cells).toList.length = cells.size := by
      rw [show (v.cells.zipIdx.foldl (fun cs (c, j) => cs.setIfInBounds (k * z + j) c) cells).toList = _ from ht]
      simp; omega
    obtain ⟨cells', h2, h3⟩ := fill_row z vs (k + 1) (v.cells.zipIdx.foldl (fun cs (c, j) => cs.setIfInBounds (k * z + j) c) cells) (fun u hu => hz u (by simp [hu])) (by
      rw [Array.length_toList] at hsz; omega)
    refine ⟨cells', h2, ?_⟩
    rw [h3, show (v.cells.zipIdx.foldl (fun cs (c, j) => cs.setIfInBounds (k * z + j) c) cells).toList = _ from ht, hv, hm, hm2, hm3]
    have hp : (cells.toList.take (k * z) ++ v.cells.toList).length = k * z + z := by
      have : k * z ≤ cells.size := by omega
      simp [hv, Nat.min_eq_left this]
    have := splice_eq (cells.toList.take (k * z)) v.cells.toList (cells.toList.drop (k * z + z)) ((vs.map fun v => v.cells.toList).flatten) (k * z + z) (vs.length * z) hp
    rw [this]
    simp only [List.map_cons, List.flatten_cons, List.drop_drop]

theorem flat_get {z : Nat} : ∀ {vs : List Value} {i : Nat} {v : Value}, (∀ v ∈ vs, v.cells.size = z) → vs[i]? = some v → (((vs.map fun v => v.cells.toList).flatten).drop (i * z)).take z = v.cells.toList
  | u :: vs, 0, v, hz, h => by
    cases h
    have := hz u (by simp)
    simp only [Nat.zero_mul, List.drop_zero, List.map_cons, List.flatten_cons]
    rw [List.take_append_of_le_length (by simp [this]), List.take_of_length_le (by simp [this])]
  | u :: vs, i + 1, v, hz, h => by
    have := hz u (by simp)
    simp only [List.map_cons, List.flatten_cons]
    have hl : u.cells.toList.length = z := by simpa using this
    have e1 : (i + 1) * z = z + i * z := by rw [Nat.add_mul, Nat.one_mul]; omega
    rw [e1, List.drop_append, List.drop_of_length_le (by omega), List.nil_append, hl, show z + i * z - z = i * z by omega]
    exact flat_get (fun v hv => hz v (by simp [hv])) h

theorem flat_len {z : Nat} : ∀ {vs : List Value}, (∀ v ∈ vs, v.cells.size = z) → ((vs.map fun v => v.cells.toList).flatten).length = vs.length * z
  | [], _ => by simp
  | u :: vs, hz => by
    have := hz u (by simp)
    simp only [List.map_cons, List.flatten_cons, List.length_append, flat_len (vs := vs) (fun v hv => hz v (by simp [hv])), List.length_cons, Nat.add_mul, Nat.one_mul, Array.length_toList, this]
    omega

theorem buildSlice_sound (hE : E.Ok) (h : StRel B ρ st a fs w) {t n : Nat} {parts : Array (Nat × Operand)} {o : Oper} (e : o.op = .buildSlice t n parts) (hk : st.buildSlice E t n parts.toList kv) : Yield E B o a fs w kv := by
  have h0 := frzOps_rel (parts.toList.map (·.2)) h
  unfold St.buildSlice at hk
  simp only at hk
  generalize st.frzOps (parts.toList.map (·.2)) = st1 at h0 hk
  have hd := hE.d t
  split at hk
  · rename_i e' e1
    rw [e1] at hd
    have hd : E.P.underlying t = some (.slice e') := hd
    split at hk
    · rename_i k e2
      obtain ⟨_, _, inf, z, hi, hsz, _, hz, hzc⟩ := hE.k e2
      split at hk
      · rename_i hc
        obtain ⟨hr, hn6, hsm⟩ := hc
        split at hk
        · rename_i xs e3
          have hvs : SV.rels (cx B ρ st1.hp w) (parts.toList.map fun p => st1.ev p.2) (parts.toList.map fun p => a.eval p.2) := by
            have := evs_rel h0 (parts.toList.map (·.2))
            rw [List.map_map, List.map_map] at this
            exact this
          obtain ⟨h1, h2, h3⟩ := asElems_rel e3 hvs
          have hn : parts.toList.length = n := by have := congrArg List.length hr; simpa using this
          have hxn : xs.length = n := by rw [h1]; simpa using hn
          have hzip : (parts.map fun (i, x) => (i, a.eval x)).toList = (List.range' 0 (parts.toList.map fun p => a.eval p.2).length).zip (parts.toList.map fun p => a.eval p.2) := by
            rw [Array.toList_map, List.length_map, hn, ← List.range_eq_range', ← hr, List.zip_map']
          have hzs : z.cells.size = k.sz := by
            have : z.cells.toList.length = k.zero.length := by rw [hzc]
            have hl : ∀ k : Kd, k.zero.length = k.sz := by
              intro k
              induction k <;> simp_all [Kd.zero, Kd.sz]
            rw [hl] at this; simpa using this
          obtain ⟨cells', h4, h5⟩ := fill_row k.sz (parts.toList.map fun p => a.eval p.2) 0 ((Array.range (n * k.sz)).map ((if n * k.sz = 0 then #[] else z.cells)[· % (if n * k.sz = 0 then #[] else z.cells).size]!)) h2 (by simp [hn])
          rw [← hzip] at h4
          have h6 : cells'.toList = ((parts.toList.map fun p => a.eval p.2).map fun v => v.cells.toList).flatten := by
            rw [h5]
            simp [hn]
          have T : Turn B ρ (upd ρ st1.hp.length (.slice (some ⟨w.heap.size, 0, none⟩) n n)) st1.hp (st1.hp ++ [some (.row e' k xs)]) w (w.alloc (.cells cells' e')) st1.hp.length none :=
            Turn.new (World.grownBy_alloc w _ none) (fun b hb => by cases hb; exact Nat.le_refl _)
          have hsz2 : cells'.size = n * k.sz := by
            have := congrArg List.length h6
            rw [flat_len h2] at this
            simpa [hn] using this
          refine ⟨_, w.alloc (.cells cells' e'), _, _, _, .slice (some ⟨w.heap.size, 0, none⟩) n n, ?_, .inl rfl, hk, h0.turn T (fun ob hob => ?_), ⟨by simp, (upd_same _ _ _).symm, _, _, _, rfl⟩⟩
          · unfold execOp
            rw [e]
            have hbig : ¬ (n * inf.size > 2 ^ 24) := by rw [hsz]; omega
            simp only [Instr.buildSlice, Sem.run_bind, run_underlying hd, Result.andThen_ok, run_sizeOf hi, hbig, if_false]
            simp only [hsz]
            have hmap : (parts.map fun (x : Nat × Operand) => (x.fst, a.eval x.snd)) = parts.map fun (i, x) => (i, a.eval x) := rfl
            by_cases h00 : n * k.sz = 0
            · simp only [if_pos h00] at h4
              rw [if_pos h00]
              simp only [Sem.run_bind, Sem.run_pure, Result.andThen_ok, hmap, h4, newRow, run_newObj_alloc]
            · simp only [if_neg h00] at h4
              rw [if_neg h00]
              simp only [zeroValue, typeInfo, run_program, hi, hz, Sem.run_bind, Sem.run_pure, Result.andThen_ok, hmap, h4, newRow, run_newObj_alloc]
          · rw [getElem?_snoc] at hob
            cases hob
            rw [upd_same]
            refine ⟨cells'.toList, ?_, fun i x hx => ?_⟩
            · rw [hxn]
              exact .inl <| World.ownsRow_lit w cells' n (Nat.zero_le _) (by simp only [maxLen]; omega) hsz2
            · obtain ⟨v, h7, h8⟩ := h3 i x hx
              rw [h6, flat_get h2 h7]
              exact h8.step T.le.size T.le.same T.le.F
        · exact hk.elim
      · exact hk.elim
    · exact hk.elim
  · exact hk.elim
end
end Go.Vc
end
section
/- append, stores, text to bytes, make. -/
namespace Go.Vc
open Go.RowKit

def castL {a b : Kd} (h : a = b) (x : List a.T) : List b.T := h ▸ x

theorem castL_len {a : Kd} (x : List a.T) : (castL rfl x).length = x.length := rfl

def conj : List Prop → Prop → Prop
  | [], k => k
  | p :: l, k => p ∧ conj l k

theorem conj_all : ∀ {l : List Prop} {k : Prop}, conj l k → (∀ p ∈ l, p) ∧ k
  | [], _, h => ⟨(fun p hp => by cases hp), h⟩
  | p :: l, k, h => by
    obtain ⟨h1, h2⟩ := conj_all h.2
    exact ⟨fun q hq => by
      rcases List.mem_cons.1 hq with rfl | hq
      · exact h.1
      · exact h1 q hq, h2⟩

/-- What an append starts from: a row of the walk's own, or nil. -/
def St.base (st : St) (e : Nat) (k : Kd) : SV → Option (List Prop × Option Nat × List k.T)
  | .own n => match st.hp[n]? with
    | some (some (.row e' k' xs)) => if h : k' = k then (if e' = e ∧ e < BIG then some ([], some n, castL h xs) else none) else none
    | _ => none
  | .sub n k'' off len => match st.hp[n]? with
    | some (some (.row e' k' xs)) => if h : k' = k then (if e' = e ∧ k'' = k ∧ e < BIG then some ([off = 0], some n, castL h (xs.take len)) else none) else none
    | _ => none
  | .cst c => if nilSlice c then some ([], none, []) else none
  | _ => none

def St.src (st : St) (k : Kd) : SV → Option (List k.T)
  | .cst c => if nilSlice c then some [] else none
  | .dat .str l => match k with | .int .u8 => some l | _ => none
  | s => match st.list s with
    | some ⟨k', xs⟩ => if h : k' = k then some (castL h xs) else none
    | none => none

def killOpt (hp : List (Option Ob)) : Option Nat → List (Option Ob)
  | some n => hp.set n none
  | none => hp

def St.append (E : Ty) (st : St) (t : Nat) (s x : SV) (kv : SV → St → Prop) : Prop :=
  match E.d t with
  | .sl e => match E.k e with
    | some k => match st.base e k s, st.src k x with
      | some (obs, n, xs), some ys => conj obs <| 0 < k.sz ∧ (xs.length + ys.length) * E.bytes e ≤ 140737488355328 ∧ xs.length + ys.length ≤ 9223372036854775807 ∧
          kv (.own st.hp.length) { st with hp := killOpt st.hp n ++ [some (.row e k (xs ++ ys))] }
      | _, _ => False
    | none => False
  | _ => False

section
variable {E : Ty} {B : Base} {ρ : Nat → Value} {st : St} {a : Act} {fs : List Act} {w : World} {kv : SV → St → Prop} {C : Cx}

/-- The cells of elements that are read. -/
theorem els_cells {α : Type} {rep : α → List Value → Prop} {sz : Nat} (hsz : ∀ x cs, rep x cs → cs.length = sz) {ad : Addr} : ∀ {xs : List α}, Els w rep sz ad xs →
    ∃ news : List Value, news.length = xs.length * sz ∧ (∀ j u, news[j]? = some u → w.cell? (ad.add j) = some u) ∧ ∀ i x, xs[i]? = some x → rep x ((news.drop (i * sz)).take sz)
  | [], _ => ⟨[], by simp, (fun j u h => by cases h), (fun i x h => by cases h)⟩
  | x :: xs, h => by
    obtain ⟨ecs, h1, h2⟩ := h 0 x rfl
    have hl := hsz _ _ h1
    obtain ⟨news, h3, h4, h5⟩ := els_cells (ad := ad.add sz) hsz (xs := xs) (fun i y hy => by
      obtain ⟨ecs, h6, h7⟩ := h (i + 1) y hy
      refine ⟨ecs, h6, fun j u hu => ?_⟩
      have := h7 j u hu
      rw [addr_add_add]
      rw [Nat.add_mul, Nat.one_mul] at this
      rw [show sz + (i * sz + j) = i * sz + sz + j by omega]
      exact this)
    refine ⟨ecs ++ news, by simp [h3, hl, Nat.add_mul]; omega, fun j u hu => ?_, fun i y hy => ?_⟩
    · by_cases hj : j < ecs.length
      · rw [List.getElem?_append_left hj] at hu
        have := h2 j u hu
        simpa using this
      · rw [List.getElem?_append_right (by omega)] at hu
        have := h4 _ u hu
        rw [addr_add_add] at this
        rw [show sz + (j - ecs.length) = j by omega] at this
        exact this
    · cases i with
      | zero =>
        cases hy
        rw [Nat.zero_mul, List.drop_zero, List.take_append_of_le_length (by omega), List.take_of_length_le (by omega)]
        exact h1
      | succ i =>
        have := h5 i y hy
        rw [Nat.add_mul, Nat.one_mul, List.drop_append, List.drop_of_length_le (by omega), List.nil_append, show i * sz + sz - ecs.length = i * sz by omega]
        exact this

theorem run_append_nothing {P : Program} {t ty e : Nat} {i : TypeInfo} {size : Nat} (ht : P.underlying t = some (.slice e)) (hi : P.info? e = some i)
    {v : Value} {n : Nat} {xs : List Value} (hown : w.ownsRow 0 e size v n xs) (c : Nat) : (Builtin.append_ #[t, t] ty #[v, .slice none 0 c]).run P w = .ok v w := by
  rcases hown.2 with ⟨rfl, rfl⟩ | ⟨g, cap, cur, rfl, _, _, hnc, _⟩
  · simp [Builtin.append_, run_underlying ht, sizeOf, typeInfo, hi, Builtin.lenOf, Builtin.firstCells]
  · simp [Builtin.append_, run_underlying ht, sizeOf, typeInfo, hi, Builtin.lenOf, Builtin.firstCells, hnc, storeCells]

/-- A source that is a slice. -/
theorem src_rel (h : StRel B ρ st a fs w) {s : SV} {v : Value} (hs : s.rel (cx B ρ st.hp w) v) {k : Kd} {ys : List k.T} (hx : st.src k s = some ys) (hstr : ∀ l, s ≠ .dat .str l) :
    ∃ (A : Option Addr) (c : Nat), v = .slice A ys.length c ∧ (ys ≠ [] → ∃ ad, A = some ad ∧ Els w (Rep w (Forb B ρ st.hp) k) k.sz ad ys) := by
  unfold St.src at hx
  split at hx
  · rename_i c
    split at hx
    · rename_i hn
      cases hx
      have hs : v = c := hs
      rw [hs, nilSlice_eq hn]
      exact ⟨none, 0, rfl, fun h => absurd rfl h⟩
    · cases hx
  · exact absurd rfl (hstr _)
  · split at hx
    · rename_i k' xs hl
      split at hx
      · rename_i e
        subst e
        cases hx
        obtain ⟨A, c, h1, _, _, h2⟩ := list_rel h hs hl
        refine ⟨A, c, h1, fun hne => ?_⟩
        obtain ⟨ad, h3, _, h4⟩ := h2 hne
        exact ⟨ad, h3, h4⟩
      · cases hx
    · cases hx

theorem base_relV (h : StRel B ρ st a fs w) {sx : SV} {v : Value} (hs : sx.rel (cx B ρ st.hp w) v) {e' : Nat} {k : Kd} {obs : List Prop} {n : Option Nat} {xs : List k.T} (hb : st.base e' k sx = some (obs, n, xs)) (hobs : ∀ p ∈ obs, p) :
    ∃ inner, w.ownsRow 0 e' k.sz v xs.length inner ∧ (∀ i x, xs[i]? = some x → Rep w (Forb B ρ st.hp) k x ((inner.drop (i * k.sz)).take k.sz)) ∧
            (∀ b, v.ownBlock = some b → ∃ m ob, n = some m ∧ st.hp[m]? = some (some ob) ∧ blk (ρ m) = some b) ∧ (∀ m, n = some m → ∃ ob, st.hp[m]? = some (some ob) ∧ ∀ b, v.ownBlock = some b → blk (ρ m) = some b) := by
  unfold St.base at hb
  split at hb
  · rename_i m
    split at hb
    · rename_i e0 k0 xs0 hob
      split at hb
      · rename_i hke
        subst hke
        split at hb
        · rename_i hee
          obtain ⟨rfl, hB⟩ := hee
          cases hb
          have := h.h.obj m _ hob
          obtain ⟨inner, h1, h2⟩ := this
          obtain ⟨_, h3, h4⟩ := hs
          rw [h3]
          have hblk : ∀ b, (ρ m).ownBlock = some b → blk (ρ m) = some b := by
            intro b hb
            obtain ⟨A, q, c, h4⟩ := h4
            have h4 : ρ m = .slice A q c := h3.symm.trans h4
            rw [h4] at hb ⊢
            cases A with
            | none => cases hb
            | some ad => exact hb
          exact ⟨inner, h1.low hB, h2, fun b hb => ⟨m, _, rfl, hob, hblk b hb⟩, fun m' hm' => by cases hm'; exact ⟨_, hob, hblk⟩⟩
        · cases hb
      · cases hb
    · cases hb
  · rename_i m k0 off len
    split at hb
    · rename_i e0 k1 xs0 hob
      split at hb
      · rename_i hke
        subst hke
        split at hb
        · rename_i hee
          obtain ⟨rfl, rfl, hB⟩ := hee
          cases hb
          have h00 : off = 0 := hobs _ (by simp)
          subst h00
          obtain ⟨inner, hrow0, h2⟩ := h.h.obj m _ hob
          obtain ⟨hl0, hh0⟩ := hrow0.low hB
          obtain ⟨_, A0, m', cap, A', c', e5, e6, e7, e8, e9, e10⟩ := hs
          have e10 : A' = A0 := by
            rcases e10 with e10 | e10
            · rw [e10, ← map_add0]
            · omega
          subst e10
          simp only at e5
          rw [e6]
          have hlen0 : (xs0.take len).length = len := by
            rcases hh0 with ⟨hh0, hn0⟩ | ⟨g, cp, cur, hh0, _⟩
            · rw [hh0] at e5; cases e5; simp; omega
            · rw [hh0] at e5; cases e5; simp; omega
          have hxs0 : m' = xs0.length := by
            rcases hh0 with ⟨hh0, hn0⟩ | ⟨g, cp, cur, hh0, _⟩
            · rw [hh0] at e5; cases e5; omega
            · rw [hh0] at e5; cases e5; rfl
          have hblk : ∀ b, (Value.slice A' len c').ownBlock = some b → blk (ρ m) = some b := by
            intro b hb
            rw [e5]
            cases A' with
            | none => cases hb
            | some ad => exact hb
          have hle : len * k0.sz ≤ xs0.length * k0.sz := Nat.mul_le_mul_right _ (by omega)
          refine ⟨inner.take (len * k0.sz), ⟨?_, ?_⟩, fun i x hx => ?_, fun b hb => ⟨m, _, rfl, hob, hblk b hb⟩, fun m2 hm2 => by cases hm2; exact ⟨_, hob, hblk⟩⟩
          · show (inner.take (len * k0.sz)).length = (xs0.take len).length * k0.sz
            rw [hlen0, List.length_take, hl0]; omega
          · show (Value.slice A' len c' = .slice none 0 0 ∧ (xs0.take len).length = 0) ∨ _
            rcases hh0 with ⟨hh0, hn0⟩ | ⟨g, cp, cur, hh0, h11, h12, h13, h14, h15, h16⟩
            · rw [hh0] at e5; cases e5
              left
              exact ⟨by congr 1 <;> omega, by rw [hlen0]; omega⟩
            · rw [hh0] at e5; cases e5
              right
              refine ⟨g, c', cur, by rw [castL_len, hlen0], h11, h12, by rw [castL_len, hlen0]; omega, by omega, by rw [h15]; congr 1; omega, ?_⟩
              rw [castL_len, hlen0, ← h16, List.take_take, Nat.min_eq_left (by omega)]
          · have hx : (xs0.take len)[i]? = some x := hx
            rw [List.getElem?_take] at hx
            split at hx
            · rename_i hil
              have h3 := h2 i x hx
              have h4 : (i + 1) * k0.sz ≤ len * k0.sz := Nat.mul_le_mul_right _ hil
              rw [List.drop_take, List.take_take, Nat.min_eq_left (by rw [Nat.add_mul] at h4; omega)]
              exact h3
            · cases hx
        · cases hb
      · cases hb
    · cases hb
  · rename_i c0
    split at hb
    · rename_i hn
      cases hb
      have hs : v = c0 := hs
      rw [hs, nilSlice_eq hn]
      exact ⟨[], World.ownsRow_nil _ _ _ _, (fun i x hx => by cases hx), (fun b hb => by cases hb), (fun m hm => by cases hm)⟩
    · cases hb
  · cases hb

theorem base_rel (h : StRel B ρ st a fs w) {s : Operand} {e' : Nat} {k : Kd} {obs : List Prop} {n : Option Nat} {xs : List k.T} (hb : st.base e' k (st.ev s) = some (obs, n, xs)) (hobs : ∀ p ∈ obs, p) :
    ∃ inner, w.ownsRow 0 e' k.sz (a.eval s) xs.length inner ∧ (∀ i x, xs[i]? = some x → Rep w (Forb B ρ st.hp) k x ((inner.drop (i * k.sz)).take k.sz)) ∧
            (∀ b, (a.eval s).ownBlock = some b → ∃ m ob, n = some m ∧ st.hp[m]? = some (some ob) ∧ blk (ρ m) = some b) ∧ (∀ m, n = some m → ∃ ob, st.hp[m]? = some (some ob) ∧ ∀ b, (a.eval s).ownBlock = some b → blk (ρ m) = some b) :=
  base_relV h (ev_rel h s) hb hobs

/-- A cut of a row, as a row of its own; the old one is given up. -/
def St.trunc (st : St) (s : SV) (kv : SV → St → Prop) : Prop :=
  match s with
  | .sub n k off len => match st.hp[n]? with
    | some (some (.row e _ _)) => match st.base e k (.sub n k off len) with
      | some (obs, some m, ys) => conj obs (kv (.own st.hp.length) { st with hp := st.hp.set m none ++ [some (.row e k ys)] })
      | _ => kv s st
    | _ => kv s st
  | _ => kv s st

theorem trunc_sound (h : StRel B ρ st a fs w) {s : SV} {v : Value} (hs : s.rel (cx B ρ st.hp w) v) (hk : st.trunc s kv) : ∃ s' st' ρ', kv s' st' ∧ StRel B ρ' st' a fs w ∧ s'.rel (cx B ρ' st'.hp w) v := by
  unfold St.trunc at hk
  split at hk
  · rename_i n k off len
    split at hk
    · rename_i e k' xs hob
      split at hk
      · rename_i obs m ys hb
        obtain ⟨hobs, hk⟩ := conj_all hk
        obtain ⟨inner, hown, hreps, hblk, hdead⟩ := base_relV h hs hb hobs
        obtain ⟨ob, hm, hb2⟩ := hdead m rfl
        have hform : ∃ A q c, v = .slice A q c := by
          rcases hown.2 with ⟨rfl, _⟩ | ⟨g, cap, cur, rfl, _⟩
          · exact ⟨_, _, _, rfl⟩
          · exact ⟨_, _, _, rfl⟩
        have hvb : ∀ b, blk v = some b → v.ownBlock = some b := by
          intro b hb
          obtain ⟨A, q, c, rfl⟩ := hform
          cases A with
          | none => cases hb
          | some ad => exact hb
        have T : Turn B ρ (upd ρ st.hp.length v) st.hp (st.hp.set m none ++ [some (.row e k ys)]) w w st.hp.length none :=
          Turn.renew hm ⟨rfl, rfl, rfl, Nat.le_refl _, fun _ _ _ => rfl⟩ (fun b hb => by cases hb) (fun b hb => .inr (hb2 b (hvb b hb)))
        refine ⟨_, _, upd ρ st.hp.length v, hk, h.turn T (fun ob2 hob2 => ?_), ⟨by simp, (upd_same _ _ _).symm, hform⟩⟩
        have hlen : (st.hp.set m none).length = st.hp.length := by simp
        rw [List.getElem?_append_right (by omega), hlen, Nat.sub_self] at hob2
        cases hob2
        rw [upd_same]
        exact ⟨inner, .inl hown, fun i x hx => (hreps i x hx).step T.le.size T.le.same T.le.F⟩
      · exact ⟨_, _, _, hk, h, hs⟩
    · exact ⟨_, _, _, hk, h, hs⟩
  · exact ⟨_, _, _, hk, h, hs⟩

/-- A row that has grown. -/
theorem row_grown (h : StRel B ρ st a fs w) {o : Oper} {sv : Value} {e' : Nat} {k : Kd} {n : Option Nat} {xs ys : List k.T} {inner : List Value} (hinl : inner.length = xs.length * k.sz)
    (hreps : ∀ i x, xs[i]? = some x → Rep w (Forb B ρ st.hp) k x ((inner.drop (i * k.sz)).take k.sz))
    (hblk : ∀ b, sv.ownBlock = some b → ∃ m ob, n = some m ∧ st.hp[m]? = some (some ob) ∧ blk (ρ m) = some b) (hdead : ∀ m, n = some m → ∃ ob, st.hp[m]? = some (some ob) ∧ ∀ b, sv.ownBlock = some b → blk (ρ m) = some b)
    {v' : Value} {w' : World} {news : List Value} (hexec : (execOp a.eval o).run E.P w = .ok (.value v') w') (hown' : w'.ownsRow 0 e' k.sz v' (xs.length + ys.length) (inner ++ news)) (hgrow : w.grownBy w' sv.ownBlock)
    (hat : v'.ownBlock = sv.ownBlock ∨ v'.ownBlock = some w.heap.size) (hnews : ∀ i x, ys[i]? = some x → Rep w (Forb B ρ st.hp) k x ((news.drop (i * k.sz)).take k.sz))
    (hkv : kv (.own st.hp.length) { st with hp := killOpt st.hp n ++ [some (.row e' k (xs ++ ys))] }) : Yield E B o a fs w kv := by
  have hform : ∃ A q c, v' = .slice A q c := by
    rcases hown'.2 with ⟨rfl, _⟩ | ⟨g, cap, cur, rfl, _⟩
    · exact ⟨_, _, _, rfl⟩
    · exact ⟨_, _, _, rfl⟩
  have hvb : ∀ b, blk v' = some b → v'.ownBlock = some b := by
    intro b hb
    obtain ⟨A, q, c, rfl⟩ := hform
    cases A with
    | none => cases hb
    | some ad => exact hb
  have T : Turn B ρ (upd ρ st.hp.length v') st.hp (killOpt st.hp n ++ [some (.row e' k (xs ++ ys))]) w w' st.hp.length sv.ownBlock := by
    cases n with
    | some m =>
      obtain ⟨ob, hob, hb2⟩ := hdead m rfl
      exact Turn.renew hob hgrow hb2 (fun b hb => by
        rcases hat with h1 | h1
        · exact .inr (hb2 b (by rw [← h1]; exact hvb b hb))
        · rw [hvb b hb] at h1; cases h1; exact .inl (Nat.le_refl _))
    | none =>
      have hnone : sv.ownBlock = none := by
        cases hq : sv.ownBlock with
        | none => rfl
        | some b => obtain ⟨m, _, hm, _⟩ := hblk b hq; cases hm
      rw [hnone] at hgrow hat ⊢
      exact Turn.new hgrow (fun b hb => by
        rcases hat with h1 | h1
        · rw [hvb b hb] at h1; cases h1
        · rw [hvb b hb] at h1; cases h1; exact Nat.le_refl _)
  refine ⟨_, w', _, _, _, v', hexec, .inl rfl, hkv, h.turn T (fun ob hob => ?_), ⟨?_, (upd_same _ _ _).symm, hform⟩⟩
  · have hlen : (killOpt st.hp n).length = st.hp.length := by cases n <;> simp [killOpt]
    rw [List.getElem?_append_right (by omega), hlen, Nat.sub_self] at hob
    cases hob
    rw [upd_same]
    refine ⟨inner ++ news, by rw [List.length_append]; exact .inl hown', fun i x hx => ?_⟩
    by_cases hil : i < xs.length
    · rw [List.getElem?_append_left hil] at hx
      have h1 := (hreps i x hx).step T.le.size T.le.same T.le.F
      have hle : i * k.sz + k.sz ≤ inner.length := by
        rw [hinl]
        have := Nat.mul_le_mul_right k.sz (show i + 1 ≤ xs.length from hil)
        rw [Nat.add_mul, Nat.one_mul] at this
        exact this
      rw [List.drop_append_of_le_length (by omega), List.take_append_of_le_length (by simp; omega)]
      exact h1
    · rw [List.getElem?_append_right (by omega)] at hx
      have h1 := (hnews _ x hx).step T.le.size T.le.same T.le.F
      have hle : i * k.sz = inner.length + (i - xs.length) * k.sz := by
        rw [hinl, ← Nat.add_mul]; congr 1; omega
      rw [hle, ← List.drop_drop, List.drop_left]
      exact h1
  · have hlen : (killOpt st.hp n).length = st.hp.length := by cases n <;> simp [killOpt]
    simp [hlen]

theorem append_sound (hE : E.Ok) (h : StRel B ρ st a fs w) {t : Nat} {s x : Operand} {o : Oper} {c : Call} (e : o.op = .call c) (hc : c.callee = .builtin .append) (ha : c.args = #[s, x]) (hta : c.argTypes = #[t, t])
    (hstr : ∀ l, st.ev x ≠ .dat .str l) (hk : st.append E t (st.ev s) (st.ev x) kv) : Yield E B o a fs w kv := by
  have hd := hE.d t
  unfold St.append at hk
  split at hk
  · rename_i e' e1
    rw [e1] at hd
    have hd : E.P.underlying t = some (.slice e') := hd
    split at hk
    · rename_i k e2
      obtain ⟨_, _, inf, z, hi, hsz, hby, hz, hzc⟩ := hE.k e2
      split at hk
      · rename_i obs n xs ys hb hx
        obtain ⟨hobs, hk⟩ := conj_all hk
        obtain ⟨hpos, hbytes, h63, hkv⟩ := hk
        obtain ⟨A, cc, hv, hels⟩ := src_rel h (ev_rel h x) hx hstr
        have hzs : z.cells.size = k.sz := by
          have : z.cells.toList.length = k.zero.length := by rw [hzc]
          have hl : ∀ k : Kd, k.zero.length = k.sz := by
            intro k
            induction k <;> simp_all [Kd.zero, Kd.sz]
          rw [hl] at this; simpa using this
        have hrow := base_rel h hb hobs
        obtain ⟨inner, hown, hreps, hblk, hdead⟩ := hrow
        have hinl := hown.1
        -- what the call leaves
        have fin : ∀ (v' : Value) (w' : World) (news : List Value), (Builtin.append_ #[t, t] o.type #[a.eval s, a.eval x]).run E.P w = .ok v' w' → w'.ownsRow 0 e' k.sz v' (xs.length + ys.length) (inner ++ news) → w.grownBy w' (a.eval s).ownBlock →
            (v'.ownBlock = (a.eval s).ownBlock ∨ v'.ownBlock = some w.heap.size) → (∀ i x, ys[i]? = some x → Rep w (Forb B ρ st.hp) k x ((news.drop (i * k.sz)).take k.sz)) → Yield E B o a fs w kv := by
          intro v' w' news hrun hown' hgrow hat hnews
          refine row_grown h hinl hreps hblk hdead ?_ hown' hgrow hat hnews hkv
          unfold execOp
          rw [e]
          simp only [resolve, hc, ha, hta, Sem.run_bind, Sem.run_pure, Result.andThen_ok, invoke, builtin, List.map_toArray, List.map_cons, List.map_nil, hrun]
        -- the two ways
        have hrepl : ∀ x cs, Rep w (Forb B ρ st.hp) k x cs → cs.length = k.sz := fun x cs h => h.length
        cases A with
        | none =>
          have hy : ys = [] := by
            cases hys : ys with
            | nil => rfl
            | cons y l => obtain ⟨ad, h1, _⟩ := hels (by rw [hys]; simp); cases h1
          subst hy
          refine fin (a.eval s) w [] (by rw [hv]; exact run_append_nothing hd hi hown cc) (by simpa using hown) ⟨rfl, rfl, rfl, Nat.le_refl _, fun _ _ _ => rfl⟩ (.inl rfl) (fun i x hx => by cases hx)
        | some ad =>
          have hnews : ∃ news : List Value, news.length = ys.length * k.sz ∧ (∀ j u, news[j]? = some u → w.cell? (ad.add j) = some u) ∧ ∀ i x, ys[i]? = some x → Rep w (Forb B ρ st.hp) k x ((news.drop (i * k.sz)).take k.sz) := by
            by_cases hne : ys = []
            · subst hne; exact ⟨[], by simp, (fun j u h => by cases h), (fun i x h => by cases h)⟩
            · obtain ⟨ad', h1, h2⟩ := hels hne
              cases h1
              exact els_cells hrepl h2
          obtain ⟨news, h1, h2, h3⟩ := hnews
          have hone : ∀ u ∈ news, u.oneCell' = true := by
            intro u hu
            obtain ⟨j, hj, rfl⟩ := List.mem_iff_getElem.1 hu
            have hjs : j / k.sz < ys.length := Nat.div_lt_of_lt_mul (by rw [Nat.mul_comm, ← h1]; exact hj)
            have h4 := h3 (j / k.sz) _ (List.getElem?_eq_getElem hjs)
            refine h4.one _ ?_
            have hm : j / k.sz * k.sz + j % k.sz = j := by rw [Nat.mul_comm]; exact Nat.div_add_mod j k.sz
            have hmod : j % k.sz < k.sz := Nat.mod_lt _ hpos
            refine List.mem_iff_getElem?.2 ⟨j % k.sz, ?_⟩
            rw [List.getElem?_take, if_pos hmod, List.getElem?_drop, hm, List.getElem?_eq_getElem hj]
          obtain ⟨v', w', hr, h5, h6, _, h7⟩ := run_append_own_at (P := E.P) w 0 t o.type e' inf z k.sz (E.bytes e') hd hi hz hsz hby hzs hpos (a.eval s) xs.length inner hown ad ys.length cc news h1 h2 hone (by simpa [maxLen] using h63) hbytes (Nat.zero_le _)
          exact fin v' w' news (by rw [hv]; exact hr) h5 h6 h7 h3
      · exact hk.elim
    · exact hk.elim
  · exact hk.elim
end

/-! ### Stores -/
/-- A store into a part of a row's element. -/
def St.storePart (st : St) (n : Nat) (e : TypeId) (k0 : Kd) (xs : List k0.T) (k : Kd) (i off z : Nat) (l : List SV) (kv : SV → St → Prop) : Prop :=
  if k = k0 ∧ off + l.length ≤ k0.sz ∧ l.length = z then
    match unleaf k0 ((leaves k0 (xs.getD i k0.dft)).take off ++ l ++ (leaves k0 (xs.getD i k0.dft)).drop (off + l.length)) with
    | some (y, []) => kv .junk { st with hp := st.hp.set n (some (.row e k0 (xs.set i y))) }
    | _ => False
  else False

def St.store (E : Ty) (st : St) (t : Nat) (ad x : SV) (kv : SV → St → Prop) : Prop :=
  match ad, E.sz t, x.cells with
  | .ptr n o, some z, some l => match st.hp[n]? with
    | some (some (.var ty cs)) => if l.length = z ∧ o + z ≤ cs.length then kv .junk { st with hp := st.hp.set n (some (.var ty (cs.take o ++ l ++ cs.drop (o + z)))) } else False
    | _ => False
  | .oel n k i off, some z, some l => match st.hp[n]?, E.k t with
    | some (some (.row e k0 xs)), some kt => if h : kt = k0 then
        if kt = k ∧ off = 0 then
          match unleaf kt l with
          | some (y, []) => kv .junk { st with hp := st.hp.set n (some (.row e k0 (xs.set i (castT h y)))) }
          | _ => False
        else False
      else st.storePart n e k0 xs k i off z l kv
    | _, _ => False
  | _, _, _ => False

section
variable {E : Ty} {B : Base} {ρ : Nat → Value} {st : St} {a : Act} {fs : List Act} {w : World} {kv : SV → St → Prop} {C : Cx}

theorem run_storeCells_q {P : Program} (g o : Nat) (t : TypeId) (fz : Nat × Nat) : ∀ (vs : List Value) (i : Nat) (cur : Array Value) (w : World), w.heap[g]? = some (.cells cur t fz) → (fz = (0, 0) ∨ cur.size ≤ fz.1) → o + i + vs.length ≤ cur.size → (∀ v ∈ vs, v.oneCell' = true) →
    (storeCells ⟨g, o, none⟩ vs i).run P w = .ok () (w.setRow g (cur.toList.take (o + i) ++ vs ++ cur.toList.drop (o + i + vs.length)).toArray)
  | [], i, cur, w, hg, _, _, _ => by
    simp only [storeCells, List.append_nil, List.length_nil, Nat.add_zero, List.take_append_drop, Array.toArray_toList]
    rw [setRow_self w g cur t fz hg]
    rfl
  | v :: rest, i, cur, w, hg, hfz, hl, h1 => by
    have hi : o + i < cur.size := by simp at hl; omega
    have hadd : (⟨g, o, none⟩ : Addr).add i = ⟨g, o + i, none⟩ := by unfold Addr.add; split <;> simp_all
    have hcell : w.cell? ⟨g, o + i, none⟩ = some cur[o + i] := by simp [World.cell?, hg, hi]
    have hfro : w.frozen? ⟨g, o + i, none⟩ = false := by
      obtain ⟨lo, hi'⟩ := fz
      simp only [World.frozen?, hg, Bool.and_eq_false_iff, decide_eq_false_iff_not]
      rcases hfz with hfz | hfz
      · cases hfz; right; omega
      · left; simp only at hfz; omega
    have hst : (store ((⟨g, o, none⟩ : Addr).add i) v).run P w = .ok () (w.setRow g (cur.setIfInBounds (o + i) v)) := by
      rw [hadd, run_store P w _ v _ (h1 v (by simp)), hcell]
      simp [hfro, setCell_eq_setRow w g (o + i) cur t fz v hg]
    have ih := run_storeCells_q (P := P) g o t fz rest (i + 1) (cur.setIfInBounds (o + i) v) (w.setRow g (cur.setIfInBounds (o + i) v)) (setRow_heap w g cur _ t _ hg) (by simpa using hfz) (by simp at hl ⊢; omega) (fun x hx => h1 x (by simp [hx]))
    simp only [storeCells, Sem.run_bind, hst, Result.andThen_ok, ih, setRow_setRow]
    congr 3
    have e := list_seg_step cur.toList (o + i) v rest (by simp at hl ⊢; omega)
    simpa [Array.toList_setIfInBounds, Nat.add_assoc] using e

theorem run_storeVar {P : Program} {t : Nat} {inf : TypeInfo} (hi : P.info? t = some inf) {g o : Nat} {v : Value} {ty : TypeId} {cur : Array Value} {fz : Nat × Nat} (hg : w.heap[g]? = some (.cells cur ty fz)) (hfz : fz = (0, 0) ∨ cur.size ≤ fz.1)
    (hl : v.cells.size = inf.size) (hr : o + v.cells.size ≤ cur.size) (h1 : ∀ u ∈ v.cells.toList, u.oneCell' = true) :
    (storeVar t ⟨g, o, none⟩ v).run P w = .ok () (w.setRow g (cur.toList.take o ++ v.cells.toList ++ cur.toList.drop (o + v.cells.size)).toArray) := by
  unfold storeVar
  have hl' : ¬ v.cells.size ≠ inf.size := by simpa using hl
  have := run_storeCells_q (P := P) g o ty fz v.cells.toList 0 cur w hg hfz (by simpa using hr) h1
  simp only [Nat.add_zero, Array.length_toList] at this
  simp only [Sem.run_bind, run_sizeOf hi, Result.andThen_ok, hl', if_false, this]

theorem RowOk.set {e sz g n n' cap : Nat} {xs : List Value} (h : RowOk w e sz (.slice (some ⟨g, 0, none⟩) n cap) n' xs) : n' = n ∧ ∃ (cur : Array Value) (e0 : Nat) (fz : Nat × Nat), w.heap[g]? = some (.cells cur e0 fz) ∧ (fz = (0, 0) ∨ cur.size ≤ fz.1) ∧ n' ≤ cap ∧ cap ≤ maxLen ∧ cur.size = cap * sz ∧ cur.toList.take (n' * sz) = xs ∧
    ∀ cur' : Array Value, cur'.size = cur.size → RowOk (w.setRow g cur') e sz (.slice (some ⟨g, 0, none⟩) n' cap) n' (cur'.toList.take (n' * sz)) := by
  rcases h with ⟨h1, ⟨h2, _⟩ | ⟨g', cap', cur, h2, h3, h4, h5, h6, h7, h8⟩⟩ | ⟨hB, h1, g', cap', cur, fz, h2, h4, hz, h5, h6, h7, h8⟩
  · cases h2
  · cases h2
    have hle : n * sz ≤ cap * sz := Nat.mul_le_mul_right _ h5
    refine ⟨rfl, cur, e, (0, 0), h4, .inl rfl, h5, h6, h7, h8, fun cur' hc => .inl ⟨?_, .inr ⟨g, cap, cur', rfl, h3, setRow_heap w g _ _ e (0, 0) h4, h5, h6, by rw [hc, h7], rfl⟩⟩⟩
    rw [List.length_take, Array.length_toList, hc, h7]; omega
  · cases h2
    have hle : n * sz ≤ cap * sz := Nat.mul_le_mul_right _ h5
    refine ⟨rfl, cur, _, fz, h4, .inr hz, h5, h6, h7, h8, fun cur' hc => .inr ⟨hB, ?_, g, cap, cur', fz, rfl, setRow_heap w g _ _ _ fz h4, by rw [hc]; exact hz, h5, h6, by rw [hc, h7], rfl⟩⟩
    rw [List.length_take, Array.length_toList, hc, h7]; omega

theorem splice_get (A V : List Value) (p z q : Nat) (hV : V.length = z) (hA : p + z ≤ A.length) : (A.take p ++ V ++ A.drop (p + z))[q]? = if p ≤ q ∧ q < p + z then V[q - p]? else A[q]? := by
  have h1 : (A.take p).length = p := by simp; omega
  have h2 : (A.take p ++ V).length = p + z := by simp [hV]; omega
  by_cases c1 : q < p
  · rw [if_neg (by omega), List.getElem?_append_left (by omega), List.getElem?_append_left (by omega), List.getElem?_take, if_pos c1]
  · by_cases c2 : q < p + z
    · rw [if_pos ⟨by omega, c2⟩, List.getElem?_append_left (by omega), List.getElem?_append_right (by omega), h1]
    · rw [if_neg (by omega), List.getElem?_append_right (by omega), h2, List.getElem?_drop, show p + z + (q - (p + z)) = q by omega]

/-- A piece of a list with a piece replaced. -/
theorem splice_seg (A V : List Value) (i j z m : Nat) (hV : V.length = z) (hA : m * z ≤ A.length) (hi : i < m) (hj : j < m) :
    (((A.take (i * z) ++ V ++ A.drop (i * z + z)).take (m * z)).drop (j * z)).take z = if j = i then V else ((A.take (m * z)).drop (j * z)).take z := by
  have hle : ∀ i, i < m → i * z + z ≤ m * z := fun i hi => by
    have := Nat.mul_le_mul_right z (show i + 1 ≤ m from hi)
    rw [Nat.add_mul, Nat.one_mul] at this
    exact this
  have h1 := hle i hi
  have h2 := hle j hj
  apply List.ext_getElem?
  intro q
  by_cases hq : q < z
  · rw [List.getElem?_take, if_pos hq, List.getElem?_drop, List.getElem?_take, if_pos (by omega), splice_get A V (i * z) z (j * z + q) hV (by omega)]
    by_cases e : j = i
    · subst e
      rw [if_pos (by omega), if_pos rfl]
      congr 1; omega
    · have hne : ¬ (i * z ≤ j * z + q ∧ j * z + q < i * z + z) := by
        rintro ⟨h3, h4⟩
        rcases Nat.lt_or_gt_of_ne e with h5 | h5
        · have := Nat.mul_le_mul_right z (show j + 1 ≤ i from h5)
          rw [Nat.add_mul, Nat.one_mul] at this
          omega
        · have := Nat.mul_le_mul_right z (show i + 1 ≤ j from h5)
          rw [Nat.add_mul, Nat.one_mul] at this
          omega
      rw [if_neg hne, if_neg e, List.getElem?_take, if_pos hq, List.getElem?_drop, List.getElem?_take, if_pos (by omega)]
  · rw [List.getElem?_take, if_neg hq]
    split
    · rw [List.getElem?_eq_none (by omega)]
    · rw [List.getElem?_take, if_neg hq]

/-- A piece of a list with a part of a piece replaced. -/
theorem splice_part (A V : List Value) (i j z off m : Nat) (hA : m * z ≤ A.length) (hi : i < m) (hj : j < m) (ho : off + V.length ≤ z) :
    (((A.take (i * z + off) ++ V ++ A.drop (i * z + off + V.length)).take (m * z)).drop (j * z)).take z = if j = i then (((A.take (m * z)).drop (j * z)).take z).take off ++ V ++ (((A.take (m * z)).drop (j * z)).take z).drop (off + V.length) else ((A.take (m * z)).drop (j * z)).take z := by
  have hle : ∀ i, i < m → i * z + z ≤ m * z := fun i hi => by
    have := Nat.mul_le_mul_right z (show i + 1 ≤ m from hi)
    rw [Nat.add_mul, Nat.one_mul] at this
    exact this
  have h1 := hle i hi
  have h2 := hle j hj
  have hS : (((A.take (m * z)).drop (j * z)).take z).length = z := by rw [List.length_take, List.length_drop, List.length_take]; omega
  apply List.ext_getElem?
  intro q
  by_cases hq : q < z
  · rw [List.getElem?_take, if_pos hq, List.getElem?_drop, List.getElem?_take, if_pos (by omega), splice_get A V (i * z + off) V.length (j * z + q) rfl (by omega)]
    have hs : (((A.take (m * z)).drop (j * z)).take z)[q]? = A[j * z + q]? := by rw [List.getElem?_take, if_pos hq, List.getElem?_drop, List.getElem?_take, if_pos (by omega)]
    by_cases e : j = i
    · subst e
      rw [if_pos rfl, splice_get _ V off V.length q rfl (by omega), hs]
      by_cases hc : off ≤ q ∧ q < off + V.length
      · rw [if_pos (by omega), if_pos hc]
        congr 1; omega
      · rw [if_neg (by omega), if_neg hc]
    · have hne : ¬ (i * z + off ≤ j * z + q ∧ j * z + q < i * z + off + V.length) := by
        rintro ⟨h3, h4⟩
        rcases Nat.lt_or_gt_of_ne e with h5 | h5
        · have := Nat.mul_le_mul_right z (show j + 1 ≤ i from h5)
          rw [Nat.add_mul, Nat.one_mul] at this
          omega
        · have := Nat.mul_le_mul_right z (show i + 1 ≤ j from h5)
          rw [Nat.add_mul, Nat.one_mul] at this
          omega
      rw [if_neg hne, if_neg e, hs]
  · rw [List.getElem?_take, if_neg hq]
    split
    · rw [List.getElem?_eq_none]
      rw [List.length_append, List.length_append, List.length_take, List.length_drop, hS]
      omega
    · rw [List.getElem?_take, if_neg hq]

theorem grownBy_setRow (w : World) (g : Nat) (cs : Array Value) : w.grownBy (w.setRow g cs) (some g) :=
  ⟨rfl, rfl, rfl, by simp, fun k _ hk => setRow_other w g k cs (fun e => hk (by rw [e]))⟩

theorem store_sound (hE : E.Ok) (h : StRel B ρ st a fs w) {t : Nat} {ad x : Operand} {o : Oper} (e : o.op = .store t ad x) {sa sx : SV} (ha : sa.rel (cx B ρ st.hp w) (a.eval ad)) (hx : sx.rel (cx B ρ st.hp w) (a.eval x))
    (hk : st.store E t sa sx kv) : Yield E B o a fs w kv := by
  unfold St.store at hk
  split at hk
  · rename_i n oo z l hz hl
    obtain ⟨inf, hi, hsz, _⟩ := hE.sz hz
    split at hk
    · rename_i ty cs hob
      split at hk
      · rename_i hc
        obtain ⟨hn, b, h1, h2⟩ := ha
        obtain ⟨b', vs, h3, h4, h5⟩ := h.h.obj n _ hob
        simp only at h1
        rw [h3] at h1
        simp only [Value.pointer.injEq, Option.some.injEq, Addr.mk.injEq, and_true] at h1
        subst h1
        have hr := cells_rel hl hx
        have hlen := rels_length hr
        have hlen2 := rels_length h5
        simp only [Array.length_toList] at hlen
        have T : Turn B ρ ρ st.hp (st.hp.set n (some (.var ty (cs.take oo ++ l ++ cs.drop (oo + z))))) w (w.setRow b' (vs.take oo ++ (a.eval x).cells.toList ++ vs.drop (oo + (a.eval x).cells.size)).toArray) n (some b') :=
          Turn.at hob (grownBy_setRow _ _ _) (fun b hb => by cases hb; rw [h3]; rfl)
        refine ⟨.skip, _, _, _, ρ, undef, ?_, .inr ⟨rfl, rfl⟩, hk, h.turn T (fun ob hob2 => ?_), trivial⟩
        · unfold execOp
          rw [e]
          simp only [Instr.storeAt, Instr.sureAddr, h2, Sem.run_bind, Sem.run_pure, Result.andThen_ok]
          rw [run_storeVar hi h4 (.inl rfl) (by omega) (by simp; omega) (cells_one hl hx)]
          rfl
        · have hnl := (List.getElem?_eq_some_iff.1 hob).1
          rw [List.getElem?_set_self (by simpa using hnl)] at hob2
          cases hob2
          refine ⟨b', _, h3, setRow_heap w b' _ _ ty (0, 0) h4, ?_⟩
          refine rels_append (rels_append (rels_take oo (SV.rels.le T.le h5)) (SV.rels.le T.le hr)) ?_
          have e9 : vs.drop (oo + (a.eval x).cells.size) = vs.drop (oo + z) := by rw [hlen, hc.1]
          have h10 := rels_drop (oo + z) (SV.rels.le T.le h5)
          rwa [← e9] at h10
      · exact hk.elim
    · exact hk.elim
  · rename_i n k i off z l hz hl
    obtain ⟨inf, hi, hsz, _⟩ := hE.sz hz
    split at hk
    · rename_i e0 k0 xs kt hob hkt
      split at hk
      · rename_i hh
        subst hh
        split at hk
        · rename_i hc
          obtain ⟨rfl, rfl⟩ := hc
          split at hk
          · rename_i y hy
            rw [castT_rfl] at hk
            obtain ⟨_, hszk, _⟩ := hE.k hkt
            have hzk : inf.size = kt.sz := by rw [hz] at hszk; cases hszk; exact hsz
            obtain ⟨hn, g, m, cap, h1, hlt, h2⟩ := ha
            simp only at h1
            obtain ⟨inner, ho, hreps⟩ := h.h.obj n _ hob
            simp only at ho hreps
            rw [h1] at ho
            have hol := ho.form.1
            obtain ⟨hm, cur, e1', fz, h4, hz', h5, h6, h7, h8, hset⟩ := ho.set
            subst hm
            have hr := cells_rel hl hx
            have hy2 := unleaf_all hy hr
            have hvl : (a.eval x).cells.size = kt.sz := by simpa using hy2.length
            have hle : i * kt.sz + kt.sz ≤ xs.length * kt.sz := by
              have := Nat.mul_le_mul_right kt.sz (show i + 1 ≤ xs.length by omega)
              rw [Nat.add_mul, Nat.one_mul] at this
              exact this
            have hle2 : xs.length * kt.sz ≤ cur.size := by rw [h7]; exact Nat.mul_le_mul_right _ h5
            have T : Turn B ρ ρ st.hp (st.hp.set n (some (.row e0 kt (xs.set i y)))) w (w.setRow g (cur.toList.take (i * kt.sz) ++ (a.eval x).cells.toList ++ cur.toList.drop (i * kt.sz + (a.eval x).cells.size)).toArray) n (some g) :=
              Turn.at hob (grownBy_setRow _ _ _) (fun b hb => by cases hb; rw [h1]; rfl)
            refine ⟨.skip, _, _, _, ρ, undef, ?_, .inr ⟨rfl, rfl⟩, hk, h.turn T (fun ob hob2 => ?_), trivial⟩
            · unfold execOp
              rw [e]
              simp only [Instr.storeAt, Instr.sureAddr, h2, Sem.run_bind, Sem.run_pure, Result.andThen_ok, addr_add, Nat.zero_add, Nat.add_zero]
              rw [run_storeVar hi h4 hz' (by omega) (by omega) (cells_one hl hx)]
              rfl
            · have hnl := (List.getElem?_eq_some_iff.1 hob).1
              rw [List.getElem?_set_self (by simpa using hnl)] at hob2
              cases hob2
              have hAl : xs.length * kt.sz ≤ cur.toList.length := by simpa using hle2
              have hset2 := hset (cur.toList.take (i * kt.sz) ++ (a.eval x).cells.toList ++ cur.toList.drop (i * kt.sz + (a.eval x).cells.size)).toArray (by simp; omega)
              refine ⟨(cur.toList.take (i * kt.sz) ++ (a.eval x).cells.toList ++ cur.toList.drop (i * kt.sz + (a.eval x).cells.size)).take (xs.length * kt.sz), by rw [h1, List.length_set]; exact hset2, fun j y' hy' => ?_⟩
              · have hj : j < xs.length := by
                  have := (List.getElem?_eq_some_iff.1 hy').1
                  simpa using this
                have seg : (((cur.toList.take (i * kt.sz) ++ (a.eval x).cells.toList ++ cur.toList.drop (i * kt.sz + (a.eval x).cells.size)).take (xs.length * kt.sz)).drop (j * kt.sz)).take kt.sz = if j = i then (a.eval x).cells.toList else ((cur.toList.take (xs.length * kt.sz)).drop (j * kt.sz)).take kt.sz := by
                  rw [hvl]
                  exact splice_seg cur.toList (a.eval x).cells.toList i j kt.sz xs.length (by simpa using hvl) hAl (by omega) hj
                rw [seg]
                by_cases hji : j = i
                · subst hji
                  rw [List.getElem?_set_self hj] at hy'
                  cases hy'
                  rw [if_pos rfl]
                  exact hy2.step T.le.size T.le.same T.le.F
                · rw [List.getElem?_set_ne (Ne.symm hji)] at hy'
                  rw [if_neg hji, h8]
                  exact (hreps j y' hy').step T.le.size T.le.same T.le.F
          · exact hk.elim
        · exact hk.elim
      · unfold St.storePart at hk
        split at hk
        · rename_i hc
          obtain ⟨hc, hoff, hlz⟩ := hc
          subst hc
          split at hk
          · rename_i y hy
            obtain ⟨hn, g, m, cap, h1, hlt, h2⟩ := ha
            simp only at h1
            obtain ⟨inner, ho, hreps⟩ := h.h.obj n _ hob
            simp only at ho hreps
            rw [h1] at ho
            obtain ⟨hm, cur, e1', fz, h4, hz', h5, h6, h7, h8, hset⟩ := ho.set
            subst hm
            have hr := cells_rel hl hx
            have hlen := rels_length hr
            simp only [Array.length_toList] at hlen
            have hle : i * k.sz + k.sz ≤ xs.length * k.sz := by
              have := Nat.mul_le_mul_right k.sz (show i + 1 ≤ xs.length by omega)
              rw [Nat.add_mul, Nat.one_mul] at this
              exact this
            have hle2 : xs.length * k.sz ≤ cur.size := by rw [h7]; exact Nat.mul_le_mul_right _ h5
            have hzi : (a.eval x).cells.size = inf.size := by omega
            have T : Turn B ρ ρ st.hp (st.hp.set n (some (.row e0 k (xs.set i y)))) w (w.setRow g (cur.toList.take (i * k.sz + off) ++ (a.eval x).cells.toList ++ cur.toList.drop (i * k.sz + off + (a.eval x).cells.size)).toArray) n (some g) :=
              Turn.at hob (grownBy_setRow _ _ _) (fun b hb => by cases hb; rw [h1]; rfl)
            refine ⟨.skip, _, _, _, ρ, undef, ?_, .inr ⟨rfl, rfl⟩, hk, h.turn T (fun ob hob2 => ?_), trivial⟩
            · unfold execOp
              rw [e]
              simp only [Instr.storeAt, Instr.sureAddr, h2, Sem.run_bind, Sem.run_pure, Result.andThen_ok, addr_add, Nat.zero_add]
              rw [run_storeVar hi h4 hz' hzi (by omega) (cells_one hl hx)]
              rfl
            · have hnl := (List.getElem?_eq_some_iff.1 hob).1
              rw [List.getElem?_set_self (by simpa using hnl)] at hob2
              cases hob2
              have hAl : xs.length * k.sz ≤ cur.toList.length := by simpa using hle2
              have hVl : (a.eval x).cells.toList.length = l.length := by simpa using hlen
              have hset2 := hset (cur.toList.take (i * k.sz + off) ++ (a.eval x).cells.toList ++ cur.toList.drop (i * k.sz + off + (a.eval x).cells.size)).toArray (by simp; omega)
              refine ⟨(cur.toList.take (i * k.sz + off) ++ (a.eval x).cells.toList ++ cur.toList.drop (i * k.sz + off + (a.eval x).cells.size)).take (xs.length * k.sz), by rw [h1, List.length_set]; exact hset2, fun j y' hy' => ?_⟩
              have hj : j < xs.length := by
                have := (List.getElem?_eq_some_iff.1 hy').1
                simpa using this
              have seg := splice_part cur.toList (a.eval x).cells.toList i j k.sz off xs.length hAl (by omega) hj (by omega)
              have hVs : (a.eval x).cells.toList.length = (a.eval x).cells.size := Array.length_toList ..
              rw [hVs] at seg
              rw [seg]
              by_cases hji : j = i
              · subst hji
                rw [List.getElem?_set_self hj] at hy'
                cases hy'
                rw [if_pos rfl, h8]
                have hx0 := hreps j _ (List.getElem?_eq_getElem hj)
                have hlv := leaves_rel (C := cx B ρ st.hp w) hx0
                have e0' : xs.getD j k.dft = xs[j] := by rw [List.getD_eq_getElem?_getD, List.getElem?_eq_getElem hj]; rfl
                rw [e0', ← hlen] at hy
                have hy2 := unleaf_all hy (rels_append (rels_append (rels_take off hlv) hr) (rels_drop (off + (a.eval x).cells.size) hlv))
                exact hy2.step T.le.size T.le.same T.le.F
              · rw [List.getElem?_set_ne (Ne.symm hji)] at hy'
                rw [if_neg hji, h8]
                exact (hreps j y' hy').step T.le.size T.le.same T.le.F
          · exact hk.elim
        · exact hk.elim
    · exact hk.elim
  · exact hk.elim
end
end Go.Vc
end
section
/- New rows, made. -/
namespace Go.Vc
open Go.RowKit

def St.make (E : Ty) (st : St) (t : Nat) (l c : SV) (kv : SV → St → Prop) : Prop :=
  match E.d t, l, c with
  | .sl e, .dat (.int _) n, .dat (.int _) m => match E.k e with
    | some k => (0 ≤ n ∧ n ≤ m) ∧ (E.bytes e : Int) * m ≤ 281474976710656 ∧ m ≤ 9223372036854775807 ∧
        kv (.own st.hp.length) { st with hp := st.hp ++ [some (.row e k (List.replicate n.toNat k.dft))] }
    | none => False
  | _, _, _ => False

theorem inR0 (k : IntKind) : InR k 0 := by
  cases k <;> exact ⟨by decide, by decide⟩

theorem rep_zero {w : World} {F : Nat → Prop} : ∀ k : Kd, Rep w F k k.dft k.zero
  | .int k => ⟨rfl, inR0 k⟩
  | .bool => rfl
  | .str => ⟨⟨#[]⟩, rfl, rfl, by show (0 : Nat) ≤ _; omega⟩
  | .sl k => ⟨none, 0, rfl, Nat.le_refl _, by omega, fun h => absurd rfl h⟩
  | .pair a b => ⟨a.zero, b.zero, rfl, rep_zero a, rep_zero b⟩
  | .unit => rfl
  | .err => .inl ⟨rfl, rfl⟩

theorem zero_len : ∀ k : Kd, k.zero.length = k.sz := by
  intro k
  induction k <;> simp_all [Kd.zero, Kd.sz]

theorem made_seg {cells : Array Value} {sz i N : Nat} (hc : cells.size = sz) (hi : (i + 1) * sz ≤ N) : ((madeCells cells N).toList.drop (i * sz)).take sz = cells.toList := by
  apply List.ext_getElem?
  intro j
  rw [List.getElem?_take]
  split
  · rename_i hj
    rw [List.getElem?_drop]
    have h1 : i * sz + j < N := by rw [Nat.add_mul] at hi; omega
    have h2 : (i * sz + j) % cells.size = j := by rw [hc, Nat.mul_comm, Nat.mul_add_mod, Nat.mod_eq_of_lt hj]
    have hj2 : j < cells.size := by omega
    unfold madeCells
    simp [h1, h2, hj2]
  · rename_i hj
    rw [List.getElem?_eq_none (by simp; omega)]

section
variable {E : Ty} {B : Base} {ρ : Nat → Value} {st : St} {a : Act} {fs : List Act} {w : World} {kv : SV → St → Prop}

theorem make_core (hE : E.Ok) (h : StRel B ρ st a fs w) {t e : Nat} {l c : Operand} {o : Oper} (ho : o.op = .makeSlice t l c) (hd : E.d t = .sl e) {k : Kd} (hk : E.k e = some k) {kl kc : IntKind} {n m : Int}
    (hl : a.eval l = .int kl n) (hc : a.eval c = .int kc m) (hnm : 0 ≤ n ∧ n ≤ m) (hby : (E.bytes e : Int) * m ≤ 281474976710656) (hm : m ≤ 9223372036854775807)
    (hkv : kv (.own st.hp.length) { st with hp := st.hp ++ [some (.row e k (List.replicate n.toNat k.dft))] }) : Yield E B o a fs w kv := by
  have hdt := hE.d t
  rw [hd] at hdt
  obtain ⟨_, _, inf, z, hi, hsz, hb, hz, hzc⟩ := hE.k hk
  have hzs : z.cells.size = k.sz := by
    have := congrArg List.length hzc
    rw [zero_len] at this
    simpa using this
  have hrun := run_makeSlice w t e inf z hdt hi hz kl kc n m hnm.1 hnm.2
  rw [hb] at hrun
  have hrun2 := run_make (P := E.P) w t e inf z hdt hi hz kl kc n m hnm.1 hnm.2 (by rw [hb]; exact hby) hm
  have hnm2 : n.toNat ≤ m.toNat := by omega
  have T : Turn B ρ (upd ρ st.hp.length (.slice (some ⟨w.heap.size, 0, none⟩) n.toNat m.toNat)) st.hp (st.hp ++ [some (.row e k (List.replicate n.toNat k.dft))]) w
      (w.alloc (.cells (madeCells z.cells (m.toNat * inf.size)) e)) st.hp.length none :=
    Turn.new (World.grownBy_alloc w _ none) (fun b hb => by cases hb; exact Nat.le_refl _)
  refine ⟨_, _, _, _, _, _, ?_, .inl rfl, hkv, h.turn T (fun ob hob => ?_), ⟨by simp, (upd_same _ _ _).symm, _, _, _, rfl⟩⟩
  · unfold execOp
    rw [ho]
    simp only [hl, hc, Sem.run_bind, hrun2, Result.andThen_ok, Sem.run_pure]
  · rw [getElem?_snoc] at hob
    cases hob
    rw [upd_same]
    have hh : (w.alloc (.cells (madeCells z.cells (m.toNat * inf.size)) e)).heap[w.heap.size]? = some (.cells (madeCells z.cells (m.toNat * inf.size)) e (0, 0)) := heap_alloc_new w _
    have hcur : (madeCells z.cells (m.toNat * inf.size)).size = m.toNat * k.sz := by rw [size_madeCells, hsz]
    have hle : n.toNat * k.sz ≤ m.toNat * k.sz := Nat.mul_le_mul_right _ hnm2
    refine ⟨(madeCells z.cells (m.toNat * inf.size)).toList.take (n.toNat * k.sz), .inl ⟨by rw [List.length_take, List.length_replicate, Array.length_toList, hcur]; omega, .inr ⟨_, m.toNat, _, by simp, Nat.zero_le _, hh, by simpa using hnm2, by simp only [maxLen]; omega, hcur, by simp⟩⟩, fun i x hx => ?_⟩
    have hx2 := List.getElem?_eq_some_iff.1 hx
    obtain ⟨hi', hx3⟩ := hx2
    rw [List.length_replicate] at hi'
    simp only [List.getElem_replicate] at hx3
    subst hx3
    have hseg : (((madeCells z.cells (m.toNat * inf.size)).toList.take (n.toNat * k.sz)).drop (i * k.sz)).take k.sz = k.zero := by
      have h1 : (i + 1) * k.sz ≤ n.toNat * k.sz := Nat.mul_le_mul_right _ hi'
      rw [List.drop_take, List.take_take, Nat.min_eq_left (by rw [Nat.add_mul] at h1; omega), ← hzc]
      exact made_seg hzs (by rw [hsz]; omega)
    rw [hseg]
    exact rep_zero k

theorem make_sound (hE : E.Ok) (h : StRel B ρ st a fs w) {t : Nat} {l c : Operand} {o : Oper} (ho : o.op = .makeSlice t l c) (hk : st.make E t (st.ev l) (st.ev c) kv) : Yield E B o a fs w kv := by
  have hl := ev_rel h l
  have hc := ev_rel h c
  unfold St.make at hk
  split at hk
  · rename_i e kl n kc m e1 e2 e3
    rw [e2] at hl
    rw [e3] at hc
    split at hk
    · rename_i k e4
      exact make_core hE h ho e1 e4 (VRep_int.1 hl).1 (VRep_int.1 hc).1 hk.1 hk.2.1 hk.2.2.1 hk.2.2.2
    · exact hk.elim
  · exact hk.elim
end
end Go.Vc
end
section
/- A string's bytes appended: where the row lies. -/
namespace Go.Vc
open Go.RowKit

theorem run_append_str_at {P : Program} (w : World) (base : Nat) (t u ty e : TypeId) (i : TypeInfo) (ht : P.underlying t = some (.slice e)) (hu : P.underlying u = some .string) (hi : P.info? e = some i) (hz : i.zero = some (.int .u8 0))
    (hsize : i.size = 1) (hby : i.bytes = 1)
    (v : Value) (n : Nat) (xs : List Value) (hown : w.ownsRow base e 1 v n xs) (s : ByteArray)
    (h63 : n + s.size ≤ maxLen) (hbytes : n + s.size ≤ 140737488355328) (hbase : base ≤ w.heap.size) :
    ∃ v' w', (Builtin.append_ #[t, u] ty #[v, .string s]).run P w = .ok v' w' ∧ w'.ownsRow base e 1 v' (n + s.size) (xs ++ Lib.strCells s) ∧ w.grownBy w' v.ownBlock ∧
      (v'.ownBlock = v.ownBlock ∨ v'.ownBlock = some w.heap.size) := by
  obtain ⟨v', w', hr, h1, h2, _⟩ := Lib.run_append_own_string (P := P) w base t u ty e i ht hu hi hz hsize hby v n xs hown s h63 hbytes hbase
  refine ⟨v', w', hr, h1, h2, ?_⟩
  have hsmall : n + s.size ≤ 9223372036854775807 := by simp only [maxLen] at h63; omega
  have hxl : xs.length = n := by simpa using hown.1
  have key : ∀ {v2 : Value} {w2 : World}, (Builtin.append_ #[t, u] ty #[v, .string s]).run P w = .ok v2 w2 → v' = v2 := fun h => by
    rw [hr] at h; cases h; rfl
  rcases hown.2 with ⟨rfl, rfl⟩ | ⟨g, cap, cur, rfl, hbg, hg, hnc, hcm, hcs, htake⟩
  · by_cases hm : s.size = 0
    · have hf := Lib.run_firstCells_string (P := P) w 1 s
      rw [hm] at hf
      have := key (v2 := .slice none 0 0) (w2 := w) (by simp [Builtin.append_, run_underlying ht, run_underlying hu, sizeOf, typeInfo, hi, hsize, Builtin.lenOf, hm, hf])
      rw [this]
      exact .inl rfl
    · have hr2 := run_append_nil_string (P := P) w t u ty e i (.int .u8 0) ht hu hi hz s (by omega) (by omega) (by rw [hby]; omega)
      rw [key hr2]
      exact .inr rfl
  · by_cases hroom : n + s.size ≤ cap
    · have hcs' : cur.size = cap := by simpa using hcs
      rw [key (Lib.run_append_room_string (P := P) w t u ty e i ht hu hi hsize g n cap cur hg s hroom (by omega))]
      exact .inl rfl
    · have holds : ∀ j u, xs[j]? = some u → w.cell? ((⟨g, 0, none⟩ : Addr).add j) = some u := hown.cells (g := g) rfl
      rw [key (Lib.run_append_grow_string (P := P) w t u ty e i (.int .u8 0) ht hu hi hz ⟨g, 0, none⟩ n cap xs (by rw [hsize]; simpa using hxl) holds s (by omega) (by omega) (by rw [hby]; exact growslice_fits (by omega) (by omega)))]
      exact .inr rfl

/-- A text's bytes, put behind a row of bytes. -/
def St.appStr (E : Ty) (st : St) (t t' : Nat) (s x : SV) (kv : SV → St → Prop) : Prop :=
  match E.d t, E.d t', x with
  | .sl e, .str, .dat .str l => match E.k e, st.base e (.int .u8) s with
    | some (.int .u8), some (obs, n, xs) => conj obs <| (E.P.info? e).map (·.zero) = some (some (.int .u8 0)) ∧ E.bytes e = 1 ∧ xs.length + l.length ≤ 140737488355328 ∧
        kv (.own st.hp.length) { st with hp := killOpt st.hp n ++ [some (.row e (.int .u8) (xs ++ l))] }
    | _, _ => False
  | _, _, _ => False

section
variable {E : Ty} {B : Base} {ρ : Nat → Value} {st : St} {a : Act} {fs : List Act} {w : World} {kv : SV → St → Prop} {C : Cx}

theorem appStr_sound (hE : E.Ok) (h : StRel B ρ st a fs w) {t t' : Nat} {s x : Operand} {o : Oper} {c : Call} (e : o.op = .call c) (hc : c.callee = .builtin .append) (ha : c.args = #[s, x]) (hta : c.argTypes = #[t, t'])
    (hk : st.appStr E t t' (st.ev s) (st.ev x) kv) : Yield E B o a fs w kv := by
  have hd := hE.d t
  have hd' := hE.d t'
  have hx := ev_rel h x
  unfold St.appStr at hk
  split at hk
  · rename_i e' l e1 e2 e3
    rw [e1] at hd
    rw [e2] at hd'
    rw [e3] at hx
    obtain ⟨s0, hs0, hl, hsz0⟩ := VRep_str.1 hx
    split at hk
    · rename_i obs n xs e4 hb
      obtain ⟨hobs, hz0, hby, hlen, hkv⟩ := conj_all hk
      obtain ⟨_, _, inf, z, hi, hsz, hby', hz, hzc⟩ := hE.k e4
      have hz' : inf.zero = some (.int .u8 0) := by
        rw [hi] at hz0
        simpa using hz0
      obtain ⟨inner, hown, hreps, hblk, hdead⟩ := base_rel h hb hobs
      have hll : l.length = s0.size := by rw [← hl, bs_length]
      obtain ⟨v', w', hr, h1, h2, h3⟩ := run_append_str_at (P := E.P) w 0 t t' o.type e' inf hd hd' hi hz' hsz (by rw [hby', hby]) (a.eval s) xs.length inner hown s0 (by simp only [maxLen]; omega) (by omega) (Nat.zero_le _)
      refine row_grown (k := .int .u8) (ys := (show List (Kd.T (.int .u8)) from l)) h hown.1 hreps hblk hdead ?_ (by rw [hll]; exact h1) h2 h3 (fun i y hy => ?_) hkv
      · unfold execOp
        rw [e]
        simp only [resolve, hc, ha, hta, Sem.run_bind, Sem.run_pure, Result.andThen_ok, invoke, builtin, List.map_toArray, List.map_cons, List.map_nil, hs0, hr]
      · have hi' := (List.getElem?_eq_some_iff.1 hy).1
        have hrange := bs_range s0 y (by rw [hl]; exact List.mem_iff_getElem?.2 ⟨i, hy⟩)
        have hcell : (Lib.strCells s0)[i]? = some (.int .u8 y) := by
          rw [← hl] at hy
          simp only [bs, List.getElem?_map] at hy
          obtain ⟨b, hb1, hb2⟩ := Option.map_eq_some_iff.1 hy
          simp only [Lib.strCells, List.getElem?_map, hb1, Option.map_some]
          rw [hb2]
        show _ = [Value.int .u8 y] ∧ InR .u8 y
        refine ⟨?_, ?_⟩
        · have hj := (List.getElem?_eq_some_iff.1 hcell).1
          show ((Lib.strCells s0).drop (i * 1)).take 1 = _
          rw [Nat.mul_one, List.drop_eq_getElem_cons hj, (List.getElem?_eq_some_iff.1 hcell).2]
          rfl
        · simp [InR, IntKind.min, IntKind.max, IntKind.signed, IntKind.bits]; omega
    · exact hk.elim
  · exact hk.elim
end
end Go.Vc
end
