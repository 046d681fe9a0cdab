/- Texts of a verified walk, led together: Op1b, Op2, Frz, Eff. -/
import Derived.Test.YtiofbnlbfmbodaaGreatDoorZV01
import Derived.Laws.Small
import Derived.MapKept
import Derived.Maps.RangeRun
import Derived.Laws.OwnMore
import Derived.Laws.NewFold
import Derived.Laws.IdiomStrings
set_option linter.unusedVariables false
set_option linter.unusedSimpArgs false
section
namespace Go.Vc
open Go.RowKit
def St.bnd (st : St) : Option Operand → Option (List Prop × Option Int)
  | none => some ([], none)
  | some x => match st.g x with
    | (o, .dat (.int _) n) => some (o, some n)
    | _ => none
def cutList {α : Type} (xs : List α) (lo hi : Option Int) : List α :=
  match lo, hi with
  | none, none => xs
  | some l, none => xs.drop l.toNat
  | none, some h => xs.take h.toNat
  | some l, some h => (xs.take h.toNat).drop l.toNat
def cutOb (lo hi : Option Int) (n : Nat) : List Prop :=
  match lo, hi with
  | none, none => []
  | some l, none => [0 ≤ l ∧ l ≤ n]
  | none, some h => [0 ≤ h ∧ h ≤ n]
  | some l, some h => [0 ≤ l ∧ l ≤ h ∧ h ≤ n]
def hiCap (hi : Option Int) (len cap : Nat) : Nat := match hi with | some _ => cap | none => len
def cutLo (lo : Option Int) : Nat := match lo with | some l => l.toNat | none => 0
def cutHi (hi : Option Int) (n : Nat) : Nat := match hi with | some h => h.toNat | none => n
def St.slice (E : Ty) (st : St) (t : Nat) (s : SV) (lo hi : Option Int) : PR :=
  match E.d t, s with
  | .str, .dat .str l => some (cutOb lo hi l.length, .dat .str (cutList l lo hi))
  | .sl e, .dat (.sl k) xs => if E.k e = some k then some (cutOb lo hi xs.length, .dat (.sl k) (cutList xs lo hi)) else none
  | .sl e, .own n => match st.row n with
    | some ⟨k, xs⟩ => if E.k e = some k then
        match lo, hi with
        | none, none => some ([], .own n)
        | _, _ => some (cutOb lo hi xs.length, .sub n k (cutLo lo) (cutHi hi xs.length - cutLo lo))
      else none
    | none => none
  | .sl e, .sub n k off len => match st.row n with
    | some ⟨k', xs⟩ => if E.k e = some k ∧ k' = k then
        match hi with
        | none => some (cutOb lo none len, .sub n k (off + cutLo lo) (len - cutLo lo))
        | some h => some (cutOb lo hi (xs.length - off), .sub n k (off + cutLo lo) (h.toNat - cutLo lo))
      else none
    | none => none
  | .sl e, .cst c => match E.k e with
    | some _ => if nilSlice c then some (cutOb lo hi 0, .cst c) else none
    | none => none
  | .arr m e, .rptr n => match st.row n with
    | some ⟨k, xs⟩ => if E.k e = some k then some (cutOb lo hi m ++ [xs.length = m], .sub n k (cutLo lo) (cutHi hi m - cutLo lo)) else none
    | none => none
  | _, _ => none
theorem map_add0 (A : Option Addr) (s : Nat) : A = A.map (·.add (0 * s)) := by
  cases A with
  | none => rfl
  | some a => simp [Addr.add_zero']
section
variable {E : Ty} {B : Base} {ρ : Nat → Value} {st : St} {a : Act} {fs : List Act} {w : World} {obs : List Prop} {s : SV} {v : Value}
def ints (k : IntKind) (x : Option Int) : Option Value := x.map (Value.int k)
theorem run_sliceBounds {P : Program} {isSlice : Bool} {len cap : Nat} {kl kh : IntKind} {lo hi : Option Int}
    (ho : ∀ p ∈ cutOb lo hi (hiCap hi len cap), p) (_hlc : len ≤ cap) :
    (Instr.sliceBounds isSlice len cap (ints kl lo) (ints kh hi) none).run P w = .ok (cutLo lo, cutHi hi len, cap) w ∧ cutLo lo ≤ cutHi hi len ∧ (cutHi hi len ≤ hiCap hi len cap) := by
  cases lo with
  | none =>
    cases hi with
    | none => exact ⟨by simp [Instr.sliceBounds, ints, cutLo, cutHi], by simp [cutLo], by simp [cutHi, hiCap]⟩
    | some h =>
      have : 0 ≤ h ∧ h ≤ (cap : Int) := ho _ (by simp [cutOb, hiCap])
      exact ⟨by simp [Instr.sliceBounds, ints, cutLo, cutHi, run_sliceBound, this], by simp [cutLo], by simp only [cutHi, hiCap]; omega⟩
  | some l =>
    cases hi with
    | none =>
      have : 0 ≤ l ∧ l ≤ (len : Int) := ho _ (by simp [cutOb, hiCap])
      exact ⟨by simp [Instr.sliceBounds, ints, cutLo, cutHi, run_sliceBound, this], by simp only [cutLo, cutHi]; omega, by simp [cutHi, hiCap]⟩
    | some h =>
      have : 0 ≤ l ∧ l ≤ h ∧ h ≤ (cap : Int) := ho _ (by simp [cutOb, hiCap])
      have h0 : 0 ≤ h := by omega
      have h1 : l ≤ ((h.toNat : Nat) : Int) := by omega
      exact ⟨by simp only [Instr.sliceBounds, ints, cutLo, cutHi, Option.map_some, Sem.run_bind, run_sliceBound w _ h cap _ h0 this.2.2, Result.andThen_ok, run_sliceBound w _ l h.toNat _ this.1 h1, Sem.run_pure], by simp only [cutLo, cutHi]; omega, by simp only [cutHi, hiCap]; omega⟩
theorem cutOb_mono {lo hi : Option Int} {n m : Nat} (h : ∀ p ∈ cutOb lo hi n, p) (hnm : n ≤ m) : ∀ p ∈ cutOb lo hi m, p := by
  cases lo <;> cases hi <;> simp only [cutOb, List.mem_singleton, List.not_mem_nil, forall_eq, false_implies, implies_true] at h ⊢ <;> omega
theorem cutList_eq {α : Type} (xs : List α) {lo hi : Option Int} (h : ∀ p ∈ cutOb lo hi xs.length, p) :
    cutList xs lo hi = (xs.drop (cutLo lo)).take (cutHi hi xs.length - cutLo lo) ∧ cutLo lo ≤ cutHi hi xs.length ∧ cutHi hi xs.length ≤ xs.length := by
  cases lo with
  | none => cases hi with
    | none => exact ⟨by simp [cutList, cutLo, cutHi], by simp [cutLo], by simp [cutHi]⟩
    | some h' =>
      have : 0 ≤ h' ∧ h' ≤ (xs.length : Int) := h _ (by simp [cutOb])
      exact ⟨by simp [cutList, cutLo, cutHi], by simp [cutLo], by simp only [cutHi]; omega⟩
  | some l => cases hi with
    | none =>
      have : 0 ≤ l ∧ l ≤ (xs.length : Int) := h _ (by simp [cutOb])
      exact ⟨by simp only [cutList, cutLo, cutHi]; rw [List.take_of_length_le (by simp)], by simp only [cutLo, cutHi]; omega, by simp [cutHi]⟩
    | some h' =>
      have : 0 ≤ l ∧ l ≤ h' ∧ h' ≤ (xs.length : Int) := h _ (by simp [cutOb])
      exact ⟨by simp only [cutList, cutLo, cutHi]; rw [List.drop_take], by simp only [cutLo, cutHi]; omega, by simp only [cutHi]; omega⟩
theorem cutList_length {α : Type} (xs : List α) {lo hi : Option Int} (h : ∀ p ∈ cutOb lo hi xs.length, p) : (cutList xs lo hi).length = cutHi hi xs.length - cutLo lo := by
  obtain ⟨e, h1, h2⟩ := cutList_eq xs h
  rw [e]; simp; omega
theorem bs_extract (s : ByteArray) (i j : Nat) : bs (s.extract i j) = ((bs s).drop i).take (j - i) := by
  have : (s.extract i j).data.toList = (s.data.toList.drop i).take (j - i) := by
    rw [ByteArray.data_extract, Array.toList_extract, List.extract_eq_take_drop]
  unfold bs
  rw [this, List.map_take, List.map_drop]
theorem els_cut {α : Type} {rep : α → List Value → Prop} {sz : Nat} {ad : Addr} {xs : List α} (h : Els w rep sz ad xs) (off len : Nat) : Els w rep sz (ad.add (off * sz)) ((xs.drop off).take len) := fun i x hx => by
  rw [List.getElem?_take] at hx
  split at hx
  . rw [List.getElem?_drop] at hx
    obtain ⟨ecs, hr, hc⟩ := h (off + i) x hx
    refine ⟨ecs, hr, fun j u hu => ?_⟩
    rw [addr_add_add, ← Nat.add_assoc, ← Nat.add_mul]
    exact hc j u hu
  . cases hx
theorem run_slice_of {P : Program} {t e : Nat} (hd : P.underlying t = some (.slice e)) {inf : TypeInfo} (hi : P.info? e = some inf) {A : Option Addr} {len cap : Nat} {lo hi' : Option Value} {l h m : Nat}
    (hb : (Instr.sliceBounds true len cap lo hi' none).run P w = .ok (l, h, m) w) :
    (Instr.sliceAt t (.slice A len cap) lo hi' none).run P w = .ok (.slice (if m = l then A else A.map (·.add (l * inf.size))) (h - l) (m - l)) w := by
  simp only [Instr.sliceAt, Sem.run_bind, run_underlying hd, Result.andThen_ok, Instr.slice, hb, run_sizeOf hi, Sem.run_pure]
theorem slice_sound (hE : E.Ok) (h : StRel B ρ st a fs w) {t : Nat} {s' : SV} {lo hi : Option Int} {kl kh : IntKind} (hop : st.slice E t s lo hi = some (obs, s')) (ho : ∀ p ∈ obs, p) (hs : s.rel (cx B ρ st.hp w) v) :
    ∃ v', (Instr.sliceAt t v (ints kl lo) (ints kh hi) none).run E.P w = .ok v' w ∧ s'.rel (cx B ρ st.hp w) v' := by
  have hd := hE.d t
  unfold St.slice at hop
  split at hop
  . rename_i l e1
    rw [e1] at hd
    have hd : E.P.underlying t = some .string := hd
    cases hop
    obtain ⟨s, rfl, rfl, h3⟩ := VRep_str.1 hs
    have ho' : ∀ p ∈ cutOb lo hi (hiCap hi s.size s.size), p := by
      have : hiCap hi s.size s.size = s.size := by cases hi <;> rfl
      rw [this, ← bs_length]; exact ho
    obtain ⟨r1, r2, r3⟩ := run_sliceBounds (P := E.P) (w := w) (isSlice := false) (kl := kl) (kh := kh) ho' (Nat.le_refl _)
    obtain ⟨c1, c2, c3⟩ := cutList_eq (bs s) ho
    rw [bs_length] at c1 c2 c3
    refine ⟨.string (s.extract (cutLo lo) (cutHi hi s.size)), by simp [Instr.sliceAt, run_underlying hd, Instr.slice, r1], VRep_str.2 ⟨_, rfl, ?_, ?_⟩⟩
    . rw [bs_extract, c1]
    . rw [ByteArray.size_extract]; omega
  . rename_i e k xs e1
    rw [e1] at hd
    have hd : E.P.underlying t = some (.slice e) := hd
    split at hop
    . rename_i hk
      cases hop
      obtain ⟨_, _, inf, z, hi0, hsz, _⟩ := hE.k hk
      obtain ⟨A, c, rfl, h1, h2, h3⟩ := VRep_sl.1 hs
      have ho' : ∀ p ∈ cutOb lo hi (hiCap hi xs.length c), p := by
        cases hi with
        | none => exact ho
        | some _ => exact cutOb_mono ho h1
      obtain ⟨r1, r2, r3⟩ := run_sliceBounds (P := E.P) (w := w) (isSlice := true) (kl := kl) (kh := kh) ho' h1
      obtain ⟨c1, c2, c3⟩ := cutList_eq xs ho
      have c4 := cutList_length xs ho
      refine ⟨_, run_slice_of hd hi0 r1, VRep_sl.2 ⟨_, _, by rw [c4], by omega, by omega, fun hne => ?_⟩⟩
      have hpos : 0 < (cutList xs lo hi).length := List.length_pos_iff.2 hne
      obtain ⟨ad, rfl, h4, h5, h6⟩ := h3 (fun e => by subst e; simp only [List.length_nil] at c3 c4; omega)
      rw [if_neg (by omega)]
      exact ⟨_, rfl, by rw [add_block]; exact h4, by rw [add_block]; exact h5, by rw [c1, hsz]; exact els_cut h6 _ _⟩
    . cases hop
  . rename_i e n e1
    rw [e1] at hd
    have hd : E.P.underlying t = some (.slice e) := hd
    split at hop
    . rename_i k xs hrow
      split at hop
      . rename_i hk
        obtain ⟨_, _, inf, z, hi0, hsz, _⟩ := hE.k hk
        obtain ⟨e', he⟩ := St.row_some hrow
        obtain ⟨A, c, e3, h1, h2, h3, h4⟩ := row_rel (h.h.obj n _ he)
        have hs' := hs
        obtain ⟨hn, rfl, _⟩ := hs
        have main : cutOb lo hi xs.length = obs → ∃ v', (Instr.sliceAt t (ρ n) (ints kl lo) (ints kh hi) none).run E.P w = .ok v' w ∧ (SV.sub n k (cutLo lo) (cutHi hi xs.length - cutLo lo)).rel (cx B ρ st.hp w) v' := by
          intro heq
          rw [← heq] at ho
          have ho' : ∀ p ∈ cutOb lo hi (hiCap hi xs.length c), p := by
            cases hi with
            | none => exact ho
            | some _ => exact cutOb_mono ho h1
          obtain ⟨r1, r2, r3⟩ := run_sliceBounds (P := E.P) (w := w) (isSlice := true) (kl := kl) (kh := kh) ho' h1
          obtain ⟨c1, c2, c3⟩ := cutList_eq xs ho
          refine ⟨_, by rw [e3]; exact run_slice_of hd hi0 r1, hn, A, xs.length, c, _, _, e3, rfl, by omega, by omega, by omega, ?_⟩
          by_cases hc : c = cutLo lo
          . by_cases h00 : cutLo lo = 0
            . rw [if_pos hc, h00]; exact .inl (map_add0 _ _)
            . exact .inr (by omega)
          . rw [if_neg hc, hsz]; exact .inl rfl
        split at hop
        . cases hop
          refine ⟨ρ n, ?_, hs'⟩
          have r1 := (run_sliceBounds (P := E.P) (w := w) (isSlice := true) (len := xs.length) (cap := c) (kl := kl) (kh := kh) (lo := none) (hi := none) (by simp [cutOb]) h1).1
          rw [show (cx B ρ st.hp w).ρ n = ρ n from rfl, e3, run_slice_of hd hi0 r1]
          simp only [cutLo, cutHi, Nat.sub_zero, Nat.zero_mul]
          congr 2
          split
          . rfl
          . cases A <;> simp [Addr.add]
        . cases hop
          exact main rfl
      . cases hop
    . cases hop
  . rename_i e n k off len e1
    rw [e1] at hd
    have hd : E.P.underlying t = some (.slice e) := hd
    split at hop
    . rename_i k' xs hrow
      split at hop
      . rename_i hk
        obtain ⟨hk, rfl⟩ := hk
        obtain ⟨_, _, inf, z, hi0, hsz, _⟩ := hE.k hk
        obtain ⟨e', he⟩ := St.row_some hrow
        obtain ⟨A, c, e3, h1, h2, h3, h4⟩ := row_rel (h.h.obj n _ he)
        obtain ⟨hn, A0, m, cap, A', cc, e4, rfl, h5, hc1, hc2, h6⟩ := hs
        simp only at e4
        have e5 := e4
        rw [e3] at e4
        simp only [Value.slice.injEq] at e4
        obtain ⟨rfl, rfl, rfl⟩ := e4
        have main : ∀ (len' : Nat), (∀ p ∈ cutOb lo hi (hiCap hi len cc), p) → len' = cutHi hi len - cutLo lo → (match hi with | some _ => cutHi hi len ≤ xs.length - off | none => True) →
            ∃ v', (Instr.sliceAt t (.slice A' len cc) (ints kl lo) (ints kh hi) none).run E.P w = .ok v' w ∧ (SV.sub n k' (off + cutLo lo) len').rel (cx B ρ st.hp w) v' := by
          intro len' ho' hl hb
          obtain ⟨r1, r2, r3⟩ := run_sliceBounds (P := E.P) (w := w) (isSlice := true) (kl := kl) (kh := kh) ho' (by omega)
          refine ⟨_, run_slice_of hd hi0 r1, hn, A, xs.length, c, _, _, e3, by rw [hl], ?_, by omega, by omega, ?_⟩
          . cases hi with
            | none => simp only [hiCap] at r3; omega
            | some _ => simp only at hb; omega
          . by_cases hc : cc = cutLo lo
            . by_cases h00 : off + cutLo lo = 0
              . rw [if_pos hc]
                rcases h6 with rfl | h6
                . exact .inl (by rw [show off + cutLo lo = off by omega])
                . omega
              . exact .inr (by omega)
            . rw [if_neg hc]
              rcases h6 with rfl | h6
              . refine .inl ?_
                rw [Option.map_map, hsz]
                congr 1
                funext x
                simp only [Function.comp, addr_add_add, Nat.add_mul]
              . exact .inr (by omega)
        split at hop
        . cases hop
          exact main _ ho rfl trivial
        . rename_i hh
          cases hop
          have h7 := cutOb_mono ho (m := cc) (by omega)
          refine main _ h7 rfl ?_
          simp only [cutHi]
          cases lo with
          | none =>
            have : 0 ≤ hh ∧ hh ≤ ((xs.length - off : Nat) : Int) := ho _ (by simp [cutOb])
            omega
          | some l =>
            have : 0 ≤ l ∧ l ≤ hh ∧ hh ≤ ((xs.length - off : Nat) : Int) := ho _ (by simp [cutOb])
            omega
      . cases hop
    . cases hop
  . rename_i e c e1
    rw [e1] at hd
    have hd : E.P.underlying t = some (.slice e) := hd
    split at hop
    . rename_i k hk
      split at hop
      . rename_i hn
        cases hop
        obtain ⟨_, _, inf, z, hi0, hsz, _⟩ := hE.k hk
        have hs : v = c := hs
        rw [nilSlice_eq hn] at hs
        rw [hs]
        have ho' : ∀ p ∈ cutOb lo hi (hiCap hi 0 0), p := by
          cases hi <;> exact ho
        obtain ⟨r1, r2, r3⟩ := run_sliceBounds (P := E.P) (w := w) (isSlice := true) (kl := kl) (kh := kh) ho' (Nat.le_refl _)
        have h0 : hiCap hi 0 0 = 0 := by cases hi <;> rfl
        refine ⟨_, run_slice_of hd hi0 r1, ?_⟩
        show _ = c
        rw [nilSlice_eq hn]
        have e1 : cutLo lo = 0 := by omega
        have e2 : cutHi hi 0 = 0 := by omega
        rw [e1, e2]
        rfl
      . cases hop
    . cases hop
  . rename_i m e n e1
    rw [e1] at hd
    have hd : E.P.underlying t = some (.array m e) := hd
    split at hop
    . rename_i k xs hrow
      split at hop
      . rename_i hk
        cases hop
        obtain ⟨_, _, inf, z, hi0, hsz, _⟩ := hE.k hk
        obtain ⟨e', he⟩ := St.row_some hrow
        obtain ⟨A, c, e3, h1, h2, h3, h4⟩ := row_rel (h.h.obj n _ he)
        obtain ⟨hn, g, m', cap, e4, rfl, hcap'⟩ := hs
        simp only at e4
        have e5 := e4
        rw [e3] at e4
        simp only [Value.slice.injEq] at e4
        obtain ⟨rfl, rfl, rfl⟩ := e4
        have ho1 : ∀ p ∈ cutOb lo hi m, p := fun p hp => ho p (List.mem_append_left _ hp)
        have hxm : xs.length = m := ho _ (by simp)
        have hcap : hiCap hi m m = m := by cases hi <;> rfl
        have ho' : ∀ p ∈ cutOb lo hi (hiCap hi m m), p := by rw [hcap]; exact ho1
        obtain ⟨r1, r2, r3⟩ := run_sliceBounds (P := E.P) (w := w) (isSlice := false) (kl := kl) (kh := kh) ho' (Nat.le_refl _)
        rw [hcap] at r3
        refine ⟨_, by
          simp only [Instr.sliceAt, Sem.run_bind, run_underlying hd, Result.andThen_ok, Instr.sureAddr, Sem.run_pure, r1, run_sizeOf hi0]
          rfl, hn, _, _, _, _, _, e5, rfl, by omega, by omega, by omega, ?_⟩
        by_cases hc : m = cutLo lo
        . by_cases h00 : cutLo lo = 0
          . rw [if_pos hc, h00]; exact .inl (map_add0 _ _)
          . exact .inr (by omega)
        . rw [if_neg hc, hsz]; exact .inl rfl
      . cases hop
    . cases hop
  . cases hop
end
def fieldOf (E : Ty) (t f : Nat) : Option (Nat × Nat) := match E.d t with | .st l => l[f]? | _ => none
def SV.isAgg : SV → Bool
  | .dat k _ => k.isAgg
  | .agg _ => true
  | _ => false
def St.field (E : Ty) (t : Nat) (s : SV) (f : Nat) : PR :=
  match s.isAgg, fieldOf E t f, s.cells with
  | true, some (ft, off), some l => match E.sz ft with
    | some z => match ofCells E ft ((l.drop off).take z) with
      | some s => some ([], s)
      | none => none
    | none => none
  | _, _, _ => none
def St.fieldAddr (E : Ty) (t : Nat) (s : SV) (f : Nat) : PR :=
  match fieldOf E t f with
  | some (ft, off) => match E.sz ft with
    | some (_ + 1) => match s with
      | .ptr n o => some ([], .ptr n (o + off))
      | .oel n k i o => some ([], .oel n k i (o + off))
      | .adr k x => match E.k ft with
        | some kf => match unleaf kf (((leaves k x).drop off).take kf.sz) with
          | some (y, []) => some ([], .adr kf y)
          | _ => none
        | none => none
      | _ => none
    | _ => none
  | none => none
def St.nilCheck (s : SV) : PR :=
  match s with
  | .ptr n o => some ([], .ptr n o)
  | .rptr n => some ([], .rptr n)
  | .adr k x => some ([], .adr k x)
  | .oel n k i o => some ([], .oel n k i o)
  | .fn f c => some ([], .fn f c)
  | _ => none
def SV.nb : SV → SV
  | .cst (.bool b) => .dat .bool b
  | s => s
theorem nb_rel {C : Cx} {s : SV} {v : Value} (h : s.rel C v) : s.nb.rel C v := by
  unfold SV.nb
  split
  . exact VRep_bool.2 h
  . exact h
def joinIf (c : Bool) (s t : SV) : PR :=
  match (s.ug.1, s.ug.2.nb), (t.ug.1, t.ug.2.nb) with
  | (oa, .dat ka x), (ob, .dat kb y) =>
    if h : kb = ka then some (oa.map (fun p => c = true → p) ++ ob.map (fun p => c = false → p), .dat ka (bif c then x else castT h y)) else none
  | _, _ => none
def St.un (op : UnOp) (s : SV) : PR :=
  match op, s with
  | .not, .dat .bool b => some ([], .dat .bool (!b))
  | .not, .cst (.bool b) => some ([], .cst (.bool (!b)))
  | .neg, .dat (.int k) n => some ([], .dat (.int k) (k.wrap (0 - n)))
  | .xor, .dat (.int k) n => some ([], .dat (.int k) (ibit .xor k (if k.signed then -1 else k.max) n))
  | _, _ => none
def nilConst : TD → Value → Bool
  | .fn, .nilFunc => true
  | .ptr _, .pointer none => true
  | .sl _, .slice none _ _ => true
  | _, _ => false
def nilEq (d : TD) : SV → Option Bool
  | .cst c => if nilConst d c then some true else none
  | .fn _ _ => match d with | .fn => some false | _ => none
  | .ptr _ _ => match d with | .ptr _ => some false | _ => none
  | .rptr _ => match d with | .ptr _ => some false | _ => none
  | .adr _ _ => match d with | .ptr _ => some false | _ => none
  | .oel _ _ _ _ => match d with | .ptr _ => some false | _ => none
  | _ => none
def isBoolTD : TD → Bool
  | .bool => true
  | _ => false
def binNil (d : TD) (op : BinOp) (s : SV) (c : Value) : PR :=
  if nilConst d c then
    match op, nilEq d s with
    | .eql, some b => some ([], .cst (.bool b))
    | .neq, some b => some ([], .cst (.bool (!b)))
    | _, _ => none
  else none
def TD.conc : TD → Bool
  | .oth | .ifc => false
  | _ => true
theorem TD.conc_known {d : TD} (h : d.conc = true) : d.known = true := by cases d <;> first | rfl | cases h
def ifcNil (d : TD) (op : BinOp) (s : SV) (y : Operand) : PR :=
  match d, y, s, op with
  | .ifc, .const .nilIface, .ifc _ _, .eql => some ([], .cst (.bool false))
  | .ifc, .const .nilIface, .ifc _ _, .neq => some ([], .cst (.bool true))
  | .ifc, .const .nilIface, .cst .nilIface, .eql => some ([], .cst (.bool true))
  | .ifc, .const .nilIface, .cst .nilIface, .neq => some ([], .cst (.bool false))
  | .ifc, .const .nilIface, .dat .err b, .eql => some ([], .dat .bool (!b))
  | .ifc, .const .nilIface, .dat .err b, .neq => some ([], .dat .bool b)
  | _, _, _, _ => none
def St.assert (E : Ty) (s : SV) (t : Nat) (ok : Bool) : PR :=
  match E.d t, s with
  | .ifc, _ => none
  | .oth, _ => none
  | _, .ifc u s => if u = t then some ([], if ok then .tup [s, .cst (.bool true)] else s) else none
  | _, _ => none
def St.bin (E : Ty) (ty : Nat) (op : BinOp) (s t : SV) : PR :=
  match op, s, t with
  | .shl, .dat (.int k) x, .dat (.int _) y => binShift .shl k x y
  | .shr, .dat (.int k) x, .dat (.int _) y => binShift .shr k x y
  | op, .dat (.int k) x, .dat (.int k') y => if k = k' then binInt op k x y else none
  | op, .dat .str x, .dat .str y => binStr op x y
  | .eql, .dat .bool x, .dat .bool y => if isBoolTD (E.d ty) then some ([], .dat .bool (decide (x = y))) else none
  | .neq, .dat .bool x, .dat .bool y => if isBoolTD (E.d ty) then some ([], .dat .bool (decide (x ≠ y))) else none
  | .eql, .dat (.pair a b) x, .dat k y => if h : k = .pair a b then (if eqAll E ty (.pair a b) = true then some ([], .dat .bool (eqD (.pair a b) x (castT h y))) else none) else none
  | .neq, .dat (.pair a b) x, .dat k y => if h : k = .pair a b then (if eqAll E ty (.pair a b) = true then some ([], .dat .bool (!eqD (.pair a b) x (castT h y))) else none) else none
  | op, s, .cst c => binNil (E.d ty) op s c
  | _, _, _ => none
def addObs (o : List Prop) : PR → PR
  | some (p, s) => some (o ++ p, s)
  | none => none
def St.op1Call (E : Ty) (st : St) (c : Call) : PR :=
  match c.callee, c.args.toList, c.argTypes.toList with
  | .builtin .len, [x], [t] => addObs (st.g x).1 (st.len E t (st.g x).2)
  | .builtin .min, [x, y], _ => match st.g x, st.g y with
    | (o1, .dat (.int k) a), (o2, .dat (.int k') b) => if k' = k then some (o1 ++ o2, .dat (.int k) (if b < a then b else a)) else none
    | _, _ => none
  | .builtin .max, [x, y], _ => match st.g x, st.g y with
    | (o1, .dat (.int k) a), (o2, .dat (.int k') b) => if k' = k then some (o1 ++ o2, .dat (.int k) (if a < b then b else a)) else none
    | _, _ => none
  | _, _, _ => none
def St.op1a (E : Ty) (st : St) (o : Oper) : PR :=
  match o.op with
  | .move x | .assign x => some ([], st.ev x)
  | .pick c a b => match st.g c with
    | (o, .dat .bool c) => addObs o (joinIf c (st.ev a) (st.ev b))
    | (o, .cst (.bool true)) => some (o, st.ev a)
    | (o, .cst (.bool false)) => some (o, st.ev b)
    | _ => none
  | .binOp op ty x y _ => match ifcNil (E.d ty) op (st.g x).2 y with
    | some (_, s) => some ((st.g x).1, s)
    | none => addObs ((st.g x).1 ++ (st.g y).1) (St.bin E ty op (st.g x).2.nb (st.g y).2.nb)
  | .typeAssert x _ t ok => addObs (st.g x).1 (St.assert E (st.g x).2 t ok)
  | .unOp op _ x => addObs (st.g x).1 (St.un op (st.g x).2)
  | .convert src dst x => addObs (st.g x).1 (st.conv E src dst (st.g x).2)
  | .load t x => addObs (st.g x).1 (st.load E t (st.g x).2)
  | .indexAddr t x i => match st.g i with
    | (o, .dat (.int _) j) => addObs ((st.g x).1 ++ o) (st.indexAddr E t (st.g x).2 j)
    | _ => none
  | .index t x i => match st.g i with
    | (o, .dat (.int _) j) => addObs ((st.g x).1 ++ o) (St.index E t (st.g x).2 j)
    | _ => none
  | .slice t x lo hi none => match st.bnd lo, st.bnd hi with
    | some (o1, l), some (o2, h) => addObs ((st.g x).1 ++ (o1 ++ o2)) (st.slice E t (st.g x).2 l h)
    | _, _ => none
  | .field t x f => addObs (st.g x).1 (St.field E t (st.g x).2 f)
  | .fieldAddr t x f => addObs (st.g x).1 (St.fieldAddr E t (st.g x).2 f)
  | .nilCheck x => addObs (st.g x).1 (St.nilCheck (st.g x).2)
  | .extract x i => match st.g x with
    | (o, .tup l) => match l[i]? with
      | some s => some (o, s)
      | none => none
    | _ => none
  | .makeFunc (.func f) first cap => match first.toList with
    | [] => some ([], .fn f (cap.toList.map st.ev))
    | _ => none
  | .makeInterface t x => if (E.d t).conc then some ([], .ifc t (st.ev x)) else none
  | .call c => st.op1Call E c
  | _ => none
section
variable {E : Ty} {B : Base} {ρ : Nat → Value} {st : St} {a : Act} {fs : List Act} {w : World} {obs : List Prop} {s : SV} {v : Value} {C : Cx}
theorem addObs_eq {o : List Prop} {r : PR} {obs : List Prop} {s : SV} (h : addObs o r = some (obs, s)) : ∃ p, r = some (p, s) ∧ obs = o ++ p := by
  cases r with
  | none => cases h
  | some x => obtain ⟨p, s'⟩ := x; cases h; exact ⟨p, rfl, rfl⟩
theorem field_of (hE : E.Ok) {t f ft off : Nat} (h : fieldOf E t f = some (ft, off)) : ∃ fields : Array Field, E.P.underlying t = some (.struct fields) ∧ ∃ g, fields[f]? = some g ∧ g.type = ft ∧ g.offset = off := by
  have hd := hE.d t
  unfold fieldOf at h
  split at h
  . rename_i l e1
    rw [e1] at hd
    obtain ⟨h1, h2⟩ := hd
    refine ⟨_, h1, ?_⟩
    rw [← h2, List.getElem?_map] at h
    obtain ⟨g, hg, e⟩ := Option.map_eq_some_iff.1 h
    simp only [Prod.mk.injEq] at e
    exact ⟨g, by simpa using hg, e.1, e.2⟩
  . cases h
theorem run_part (hE : E.Ok) {ft off z : Nat} {cs : Array Value} {s' : SV} {l : List SV} (hz : E.sz ft = some z) (hop : ofCells E ft ((l.drop off).take z) = some s') (hr : SV.rels C l cs.toList) :
    ∃ v', (part ft cs off).run E.P w = .ok v' w ∧ s'.rel C v' := by
  obtain ⟨h1, ⟨z', h2, h3⟩, h4, h5⟩ := ofCells_rel hE hop (rels_take z (rels_drop off hr))
  rw [hz] at h2
  cases h2
  obtain ⟨inf, hi, hsz, _⟩ := hE.sz hz
  unfold part
  simp only [Sem.run_bind, run_isAgg (hE.d ft) h1, Result.andThen_ok]
  cases hb : (E.d ft).isAgg with
  | true =>
    rw [hb] at h5
    refine ⟨_, by simp only [if_true, Sem.run_bind, run_sizeOf hi, Result.andThen_ok, Sem.run_pure]; rfl, ?_⟩
    simp only [if_true] at h5
    have : cs.extract off (off + inf.size) = ((cs.toList.drop off).take z).toArray := by
      rw [hsz]
      apply Array.ext'
      simp [Array.toList_extract, List.extract_eq_take_drop]
    rw [this]; exact h5
  | false =>
    rw [hb] at h5
    simp only [Bool.false_eq_true, if_false] at h5 ⊢
    have hl := h4 hb
    match hv : (cs.toList.drop off).take z, hl with
    | [c], _ =>
      rw [hv] at h5
      have : cs[off]? = some c := by
        have h6 : ((cs.toList.drop off).take z)[0]? = some c := by rw [hv]; rfl
        rw [List.getElem?_take] at h6
        split at h6
        . simpa using h6
        . cases h6
      rw [this]
      exact ⟨c, rfl, h5⟩
theorem isAgg_rel (h : s.isAgg = true) (hs : s.rel C v) : ∃ cs, v = .agg cs := by
  cases s <;> simp only [SV.isAgg, Bool.false_eq_true] at h
  case dat k x => obtain ⟨cs, _, h2⟩ := hs; rw [if_pos h] at h2; exact ⟨_, h2⟩
  case agg l => obtain ⟨vs, h2, _⟩ := hs; exact ⟨_, h2⟩
theorem field_sound (hE : E.Ok) {t f : Nat} {s' : SV} (hop : St.field E t s f = some (obs, s')) (hs : s.rel C v) :
    ∃ v', (Instr.field t v f).run E.P w = .ok v' w ∧ s'.rel C v' := by
  unfold St.field at hop
  split at hop
  . rename_i ft off l e0 e1 e2
    split at hop
    . rename_i z hz
      split at hop
      . rename_i s0 e3
        cases hop
        obtain ⟨fields, h1, g, h2, h3, h4⟩ := field_of hE e1
        obtain ⟨cs, rfl⟩ := isAgg_rel e0 hs
        have hr := cells_rel e2 hs
        obtain ⟨v', h5, h6⟩ := run_part (w := w) (cs := cs) hE hz e3 hr
        refine ⟨v', ?_, h6⟩
        simp only [Instr.field, Sem.run_bind, run_underlying h1, Result.andThen_ok, h2, asAgg, Sem.run_pure, h3, h4]
        exact h5
      . cases hop
    . cases hop
  . cases hop
theorem fieldAddr_sound (hE : E.Ok) {t f : Nat} {s' : SV} (hop : St.fieldAddr E t s f = some (obs, s')) (hs : s.rel C v) :
    ∃ v', (Instr.fieldAt t v f).run E.P w = .ok v' w ∧ s'.rel C v' := by
  unfold St.fieldAddr at hop
  split at hop
  . rename_i ft off e1
    obtain ⟨fields, h1, g, h2, h3, h4⟩ := field_of hE e1
    split at hop
    . rename_i z hz
      obtain ⟨inf, hi, hsz, _⟩ := hE.sz hz
      have place : ∀ ad : Addr, (Instr.fieldAt t (.pointer (some ad)) f).run E.P w = .ok (.pointer (some (ad.add off))) w := by
        intro ad
        simp only [Instr.fieldAt, Sem.run_bind, run_underlying h1, Result.andThen_ok, h2, Instr.sureAddr, Sem.run_pure, fieldPlace, h3, run_sizeOf hi, hsz, h4]
        simp
      split at hop
      . cases hop
        obtain ⟨hn, b, e2, rfl⟩ := hs
        exact ⟨_, place _, hn, b, e2, by rw [addr_add]⟩
      . cases hop
        obtain ⟨hn, g', m, cap, e2, h5, rfl⟩ := hs
        exact ⟨_, place _, hn, g', m, cap, e2, h5, by rw [addr_add_add, Nat.add_assoc]⟩
      . rename_i k x
        split at hop
        . rename_i kf hk
          split at hop
          . rename_i y hy
            cases hop
            obtain ⟨ad, cs, rfl, h5, h6, h7, h8⟩ := hs
            have hy2 := unleaf_all hy (rels_take kf.sz (rels_drop off (leaves_rel (C := C) h5)))
            refine ⟨_, place _, _, _, rfl, hy2, by rw [add_block]; exact h6, by rw [add_block]; exact h7, fun j u hu => ?_⟩
            rw [List.getElem?_take] at hu
            split at hu
            . rw [List.getElem?_drop] at hu
              rw [addr_add_add]
              exact h8 _ u hu
            . cases hu
          . cases hop
        . cases hop
      . cases hop
    . cases hop
  . cases hop
theorem nilCheck_sound {s' : SV} (hop : St.nilCheck s = some (obs, s')) (hs : s.rel C v) (x : Operand) (o : Oper) (ho : o.op = .nilCheck x) (hx : a.eval x = v) :
    (execOp a.eval o).run E.P w = .ok (.value v) w ∧ s'.rel C v := by
  unfold St.nilCheck at hop
  split at hop <;> cases hop
  . have hs' := hs
    obtain ⟨hn, b, _, rfl⟩ := hs
    exact ⟨by simp [execOp, ho, hx], hs'⟩
  . have hs' := hs
    obtain ⟨hn, g, m, cap, _, rfl, _⟩ := hs
    exact ⟨by simp [execOp, ho, hx], hs'⟩
  . have hs' := hs
    obtain ⟨ad, cs, rfl, _⟩ := hs
    exact ⟨by simp [execOp, ho, hx], hs'⟩
  . have hs' := hs
    obtain ⟨hn, g, m, cap, _, _, rfl⟩ := hs
    exact ⟨by simp [execOp, ho, hx], hs'⟩
  . have hs' := hs
    obtain ⟨vs, rfl, _⟩ := hs
    exact ⟨by simp [execOp, ho, hx], hs'⟩
theorem nil_fn {t : Nat} {p r : Array TypeId} {vv : Bool} (hd : E.P.underlying t = some (.func p r vv)) (d : Nat) (f : Fn) (a b : Array Value) : (Op.equalIn (d + 1) t (.func f a b) .nilFunc).run E.P w = .ok false w := by
  simp [Op.equalIn, run_underlying hd]
theorem nil_fn0 {t : Nat} {p r : Array TypeId} {vv : Bool} (hd : E.P.underlying t = some (.func p r vv)) (d : Nat) : (Op.equalIn (d + 1) t .nilFunc .nilFunc).run E.P w = .ok true w := by
  simp [Op.equalIn, run_underlying hd]
theorem nil_ptr {t e : Nat} (hd : E.P.underlying t = some (.pointer e)) (d : Nat) (a : Addr) : (Op.equalIn (d + 1) t (.pointer (some a)) (.pointer none)).run E.P w = .ok false w := by
  simp [Op.equalIn, run_underlying hd]
theorem nil_ptr0 {t e : Nat} (hd : E.P.underlying t = some (.pointer e)) (d : Nat) : (Op.equalIn (d + 1) t (.pointer none) (.pointer none)).run E.P w = .ok true w := by
  simp [Op.equalIn, run_underlying hd]
theorem nil_sl0 {t e : Nat} (hd : E.P.underlying t = some (.slice e)) (d : Nat) (l c l' c' : Nat) : (Op.equalIn (d + 1) t (.slice none l c) (.slice none l' c')).run E.P w = .ok true w := by
  simp [Op.equalIn, run_underlying hd]
theorem nilEq_sound {d : TD} {c : Value} {t : Nat} (hd : d.ok E.P t) (hc : nilConst d c = true) {b : Bool} (hb : nilEq d s = some b) (hs : s.rel C v) :
    (binOp .eql t v c).run E.P w = .ok (.bool b) w ∧ (binOp .neq t v c).run E.P w = .ok (.bool (!b)) w ∧ (∀ cs, v ≠ .agg cs) ∧ v ≠ .nilIface := by
  unfold nilConst at hc
  split at hc
  . -- functions
    obtain ⟨p, r, vv, hd⟩ := hd
    cases s <;> simp only [nilEq] at hb <;> try (cases hb; done)
    case cst c' =>
      split at hb
      . rename_i h1
        cases hb
        have hs : v = c' := hs
        subst hs
        cases v <;> simp only [nilConst, Bool.false_eq_true] at h1
        have q : (Op.equal t .nilFunc .nilFunc).run E.P w = .ok true w := nil_fn0 hd 9999
        exact ⟨by simp only [binOp, Sem.run_bind, q, Result.andThen_ok, Sem.run_pure], by simp only [binOp, Sem.run_bind, q, Result.andThen_ok, Sem.run_pure], by simp, by simp⟩
      . cases hb
    case fn f cap =>
      cases hb
      obtain ⟨vs, rfl, _⟩ := hs
      have q : (Op.equal t (.func (.func f) #[] vs.toArray) .nilFunc).run E.P w = .ok false w := nil_fn hd 9999 _ _ _
      exact ⟨by simp only [binOp, Sem.run_bind, q, Result.andThen_ok, Sem.run_pure], by simp only [binOp, Sem.run_bind, q, Result.andThen_ok, Sem.run_pure], by simp, by simp⟩
  . -- pointers
    rename_i e
    have hd : E.P.underlying t = some (.pointer e) := hd
    have some_ : ∀ ad : Addr, (binOp .eql t (.pointer (some ad)) (.pointer none)).run E.P w = .ok (.bool false) w ∧ (binOp .neq t (.pointer (some ad)) (.pointer none)).run E.P w = .ok (.bool (!false)) w := fun ad => by
      have q : (Op.equal t (.pointer (some ad)) (.pointer none)).run E.P w = .ok false w := nil_ptr hd 9999 ad
      exact ⟨by simp only [binOp, Sem.run_bind, q, Result.andThen_ok, Sem.run_pure], by simp only [binOp, Sem.run_bind, q, Result.andThen_ok, Sem.run_pure]⟩
    cases s <;> simp only [nilEq] at hb <;> try (cases hb; done)
    case cst c' =>
      split at hb
      . rename_i h1
        cases hb
        have hs : v = c' := hs
        subst hs
        cases v <;> simp only [nilConst, Bool.false_eq_true] at h1
        case pointer a =>
          cases a <;> simp only [Bool.false_eq_true] at h1
          have q : (Op.equal t (.pointer none) (.pointer none)).run E.P w = .ok true w := nil_ptr0 hd 9999
          exact ⟨by simp only [binOp, Sem.run_bind, q, Result.andThen_ok, Sem.run_pure], by simp only [binOp, Sem.run_bind, q, Result.andThen_ok, Sem.run_pure], by simp, by simp⟩
      . cases hb
    case ptr n o => cases hb; obtain ⟨_, b, _, rfl⟩ := hs; exact ⟨(some_ _).1, (some_ _).2, by simp, by simp⟩
    case rptr n => cases hb; obtain ⟨_, g, m, cap, _, rfl, _⟩ := hs; exact ⟨(some_ _).1, (some_ _).2, by simp, by simp⟩
    case adr k x => cases hb; obtain ⟨ad, cs, rfl, _⟩ := hs; exact ⟨(some_ _).1, (some_ _).2, by simp, by simp⟩
    case oel n k i o => cases hb; obtain ⟨_, g, m, cap, _, _, rfl⟩ := hs; exact ⟨(some_ _).1, (some_ _).2, by simp, by simp⟩
  . -- slices
    rename_i e l c2
    have hd : E.P.underlying t = some (.slice e) := hd
    cases s <;> simp only [nilEq] at hb <;> try (cases hb; done)
    case cst c' =>
      split at hb
      . rename_i h1
        cases hb
        have hs : v = c' := hs
        subst hs
        cases v <;> simp only [nilConst, Bool.false_eq_true] at h1
        case slice a l' c =>
          cases a <;> simp only [Bool.false_eq_true] at h1
          have q : (Op.equal t (.slice none l' c) (.slice none l c2)).run E.P w = .ok true w := nil_sl0 hd 9999 _ _ _ _
          exact ⟨by simp only [binOp, Sem.run_bind, q, Result.andThen_ok, Sem.run_pure], by simp only [binOp, Sem.run_bind, q, Result.andThen_ok, Sem.run_pure], by simp, by simp⟩
      . cases hb
  . cases hc
theorem bin_sound (hE : E.Ok) {op : BinOp} {t t' : SV} {u : Value} {ty : Nat} (hop : St.bin E ty op s t = some (obs, t')) (ho : ∀ p ∈ obs, p) (hs : s.rel C v) (ht : t.rel C u) (x y : Operand) :
    ∃ v', (do eqGuard op ty x y v u; binOp op ty v u).run E.P w = .ok v' w ∧ t'.rel C v' := by
  have eg : ∀ {v u : Value}, (∀ cs, v ≠ .agg cs) → v ≠ .nilIface → (eqGuard op ty x y v u).run E.P w = .ok () w := by
    intro v u h1 h2
    unfold eqGuard
    cases op <;> first
      | rfl
      | (cases v <;> first | rfl | (exact absurd rfl (h1 _)) | (exact absurd rfl h2))
  have main : ∀ {v u : Value}, (∀ cs, v ≠ .agg cs) → v ≠ .nilIface → (∃ v', (binOp op ty v u).run E.P w = .ok v' w ∧ t'.rel C v') → ∃ v', (do eqGuard op ty x y v u; binOp op ty v u).run E.P w = .ok v' w ∧ t'.rel C v' := by
    intro v u h1 h2 h3
    obtain ⟨v', h4, h5⟩ := h3
    exact ⟨v', by simp only [Sem.run_bind, eg h1 h2, Result.andThen_ok]; exact h4, h5⟩
  unfold St.bin at hop
  split at hop
  . obtain ⟨rfl, hx⟩ := VRep_int.1 hs
    obtain ⟨rfl, _⟩ := VRep_int.1 ht
    exact main (by simp) (by simp) (binShift_sound hop ho hx ty)
  . obtain ⟨rfl, hx⟩ := VRep_int.1 hs
    obtain ⟨rfl, _⟩ := VRep_int.1 ht
    exact main (by simp) (by simp) (binShift_sound hop ho hx ty)
  . obtain ⟨rfl, hx⟩ := VRep_int.1 hs
    obtain ⟨rfl, _⟩ := VRep_int.1 ht
    split at hop
    . rename_i e
      subst e
      exact main (by simp) (by simp) (binInt_sound hop ho hx ty)
    . cases hop
  . obtain ⟨s1, rfl, rfl, _⟩ := VRep_str.1 hs
    obtain ⟨s2, rfl, rfl, _⟩ := VRep_str.1 ht
    exact main (by simp) (by simp) (binStr_sound hop ho ty)
  . have h1 := VRep_bool.1 hs
    have h2 := VRep_bool.1 ht
    subst h1 h2
    split at hop
    . rename_i hb
      cases hop
      have hd := hE.d ty
      cases hq : E.d ty <;> rw [hq] at hb <;> simp only [isBoolTD, Bool.false_eq_true] at hb
      rw [hq] at hd
      exact main (by simp) (by simp) ⟨_, run_eql_bool w ty _ _ hd, VRep_bool.2 rfl⟩
    . cases hop
  . have h1 := VRep_bool.1 hs
    have h2 := VRep_bool.1 ht
    subst h1 h2
    split at hop
    . rename_i hb
      cases hop
      have hd := hE.d ty
      cases hq : E.d ty <;> rw [hq] at hb <;> simp only [isBoolTD, Bool.false_eq_true] at hb
      rw [hq] at hd
      exact main (by simp) (by simp) ⟨_, run_neq_bool w ty _ _ hd, VRep_bool.2 (by congr 1; rw [Bool.eq_iff_iff]; simp)⟩
    . cases hop
  . split at hop
    . rename_i h
      subst h
      split at hop
      . rename_i hb
        cases hop
        exact ⟨_, (eqAll_sound hE hb hs ht x y).1, VRep_bool.2 rfl⟩
      . cases hop
    . cases hop
  . split at hop
    . rename_i h
      subst h
      split at hop
      . rename_i hb
        cases hop
        exact ⟨_, (eqAll_sound hE hb hs ht x y).2, VRep_bool.2 rfl⟩
      . cases hop
    . cases hop
  . rename_i c
    have hu : u = c := ht
    subst hu
    unfold binNil at hop
    split at hop
    . rename_i hc
      split at hop
      . rename_i b hb
        cases hop
        obtain ⟨h1, h2, h3, h4⟩ := nilEq_sound (w := w) (hE.d ty) hc hb hs
        exact main h3 h4 ⟨.bool b, h1, rfl⟩
      . rename_i b hb
        cases hop
        obtain ⟨h1, h2, h3, h4⟩ := nilEq_sound (w := w) (hE.d ty) hc hb hs
        exact main h3 h4 ⟨.bool (!b), h2, rfl⟩
      . cases hop
    . cases hop
  . cases hop
theorem nil_if {t u : Nat} {m : Array (String × TypeId)} (hd : E.P.underlying t = some (.interface m)) (d : Nat) (v : Value) : (Op.equalIn (d + 1) t (.iface u v) .nilIface).run E.P w = .ok false w := by
  simp [Op.equalIn, run_underlying hd]
theorem nil_if0 {t : Nat} {m : Array (String × TypeId)} (hd : E.P.underlying t = some (.interface m)) (d : Nat) : (Op.equalIn (d + 1) t .nilIface .nilIface).run E.P w = .ok true w := by
  simp [Op.equalIn, run_underlying hd]
theorem ifcNil_sound (hE : E.Ok) {op : BinOp} {t' : SV} {ty : Nat} {x y : Operand} (hop : ifcNil (E.d ty) op s y = some (obs, t')) (hs : s.rel C v) :
    ∃ v', (do eqGuard op ty x y v (a.eval y); binOp op ty v (a.eval y)).run E.P w = .ok v' w ∧ t'.rel C v' := by
  have hd := hE.d ty
  unfold ifcNil at hop
  split at hop
  . rename_i t0 s0 e1
    rw [e1] at hd
    obtain ⟨m, hd⟩ := hd
    obtain ⟨u, rfl, _⟩ := hs
    cases hop
    have q : (Op.equal ty (.iface t0 u) .nilIface).run E.P w = .ok false w := nil_if hd 9999 u
    exact ⟨.bool false, by simp only [Act.eval, eqGuard, binOp, Sem.run_bind, Sem.run_pure]; simp only [Bool.not_true, Bool.not_false, Bool.false_eq_true, if_false, Bool.true_or, Bool.or_true, if_true, ite_true, Sem.run_pure, Result.andThen_ok, Sem.run_bind, q], rfl⟩
  . rename_i t0 s0 e1
    rw [e1] at hd
    obtain ⟨m, hd⟩ := hd
    obtain ⟨u, rfl, _⟩ := hs
    cases hop
    have q : (Op.equal ty (.iface t0 u) .nilIface).run E.P w = .ok false w := nil_if hd 9999 u
    exact ⟨.bool true, by simp only [Act.eval, eqGuard, binOp, Sem.run_bind, Sem.run_pure]; simp only [Bool.not_true, Bool.not_false, Bool.false_eq_true, if_false, Bool.true_or, Bool.or_true, if_true, ite_true, Sem.run_pure, Result.andThen_ok, Sem.run_bind, q], rfl⟩
  . rename_i e1
    rw [e1] at hd
    obtain ⟨m, hd⟩ := hd
    have hs : v = _ := hs
    subst hs
    cases hop
    have q : (Op.equal ty .nilIface .nilIface).run E.P w = .ok true w := nil_if0 hd 9999
    exact ⟨.bool true, by simp only [Act.eval, eqGuard, binOp, Sem.run_bind, Sem.run_pure]; simp only [Bool.not_true, Bool.not_false, Bool.false_eq_true, if_false, Bool.true_or, Bool.or_true, if_true, ite_true, Sem.run_pure, Result.andThen_ok, Sem.run_bind, q], rfl⟩
  . rename_i e1
    rw [e1] at hd
    obtain ⟨m, hd⟩ := hd
    have hs : v = _ := hs
    subst hs
    cases hop
    have q : (Op.equal ty .nilIface .nilIface).run E.P w = .ok true w := nil_if0 hd 9999
    exact ⟨.bool false, by simp only [Act.eval, eqGuard, binOp, Sem.run_bind, Sem.run_pure]; simp only [Bool.not_true, Bool.not_false, Bool.false_eq_true, if_false, Bool.true_or, Bool.or_true, if_true, ite_true, Sem.run_pure, Result.andThen_ok, Sem.run_bind, q], rfl⟩
  . rename_i b e1
    rw [e1] at hd
    obtain ⟨m, hd⟩ := hd
    cases hop
    rcases VRep_err.1 hs with ⟨rfl, rfl⟩ | ⟨rfl, t0, u, rfl⟩
    . have q : (Op.equal ty .nilIface .nilIface).run E.P w = .ok true w := nil_if0 hd 9999
      exact ⟨.bool true, by simp only [Act.eval, eqGuard, binOp, Sem.run_bind, Sem.run_pure]; simp only [Bool.not_true, Bool.not_false, Bool.false_eq_true, if_false, Bool.true_or, Bool.or_true, if_true, ite_true, Sem.run_pure, Result.andThen_ok, Sem.run_bind, q], VRep_bool.2 rfl⟩
    . have q : (Op.equal ty (.iface t0 u) .nilIface).run E.P w = .ok false w := nil_if hd 9999 u
      exact ⟨.bool false, by simp only [Act.eval, eqGuard, binOp, Sem.run_bind, Sem.run_pure]; simp only [Bool.not_true, Bool.not_false, Bool.false_eq_true, if_false, Bool.true_or, Bool.or_true, if_true, ite_true, Sem.run_pure, Result.andThen_ok, Sem.run_bind, q], VRep_bool.2 rfl⟩
  . rename_i b e1
    rw [e1] at hd
    obtain ⟨m, hd⟩ := hd
    cases hop
    rcases VRep_err.1 hs with ⟨rfl, rfl⟩ | ⟨rfl, t0, u, rfl⟩
    . have q : (Op.equal ty .nilIface .nilIface).run E.P w = .ok true w := nil_if0 hd 9999
      exact ⟨.bool false, by simp only [Act.eval, eqGuard, binOp, Sem.run_bind, Sem.run_pure]; simp only [Bool.not_true, Bool.not_false, Bool.false_eq_true, if_false, Bool.true_or, Bool.or_true, if_true, ite_true, Sem.run_pure, Result.andThen_ok, Sem.run_bind, q], VRep_bool.2 rfl⟩
    . have q : (Op.equal ty (.iface t0 u) .nilIface).run E.P w = .ok false w := nil_if hd 9999 u
      exact ⟨.bool true, by simp only [Act.eval, eqGuard, binOp, Sem.run_bind, Sem.run_pure]; simp only [Bool.not_true, Bool.not_false, Bool.false_eq_true, if_false, Bool.true_or, Bool.or_true, if_true, ite_true, Sem.run_pure, Result.andThen_ok, Sem.run_bind, q], VRep_bool.2 rfl⟩
  . cases hop
theorem assert_sound (hE : E.Ok) {s' : SV} {t xt : Nat} {ok : Bool} (hop : St.assert E s t ok = some (obs, s')) (hs : s.rel C v) : ∃ v', (Instr.typeAssert v xt t ok).run E.P w = .ok v' w ∧ s'.rel C v' := by
  have hd := hE.d t
  unfold St.assert at hop
  split at hop
  . cases hop
  . cases hop
  . rename_i u s0 h1 h2
    split at hop
    . rename_i e
      subst e
      cases hop
      obtain ⟨v0, rfl, h0⟩ := hs
      obtain ⟨un, hu⟩ : ∃ un, E.P.underlying u = some un := by
        cases hq : E.d u <;> rw [hq] at hd
        case oth => exact absurd hq h2
        case st fs => exact ⟨_, hd.1⟩
        case fn => obtain ⟨p, r, v, h⟩ := hd; exact ⟨_, h⟩
        case ifc => obtain ⟨m, h⟩ := hd; exact ⟨_, h⟩
        all_goals exact ⟨_, hd⟩
      have hni : ∀ m, un ≠ .interface m := by
        rintro m rfl
        cases hq : E.d u <;> rw [hq] at hd
        case oth => exact absurd hq h2
        case ifc => exact absurd hq h1
        case st fs => have := hd.1; rw [hu] at this; cases this
        case fn => obtain ⟨p, r, v, h⟩ := hd; rw [hu] at h; cases h
        all_goals (have hd : E.P.underlying u = _ := hd; rw [hu] at hd; cases hd)
      have hrun : (Instr.typeAssert (.iface u v0) xt u ok).run E.P w = .ok (if ok then .tuple #[v0, .bool true] else v0) w := by
        unfold Instr.typeAssert
        simp only [Sem.run_bind, run_underlying hu, Result.andThen_ok]
        cases un <;> first | (exact absurd rfl (hni _)) | (simp)
      refine ⟨_, hrun, ?_⟩
      cases ok
      . exact h0
      . exact ⟨[v0, .bool true], rfl, v0, _, rfl, h0, .bool true, [], rfl, rfl, rfl⟩
    . cases hop
  . cases hop
theorem joinIf_sound {c : Bool} {t t' : SV} {u : Value} (hop : joinIf c s t = some (obs, t')) (ho : ∀ p ∈ obs, p) (hs : s.rel C v) (ht : t.rel C u) : t'.rel C (if c then v else u) := by
  unfold joinIf at hop
  split at hop
  . rename_i oa ka x ob kb y e1 e2
    split at hop
    . rename_i h
      cases h
      cases hop
      cases c with
      | true =>
        have h1 := nb_rel (ug_rel hs (fun p hp => by
          have : p ∈ oa := by have := congrArg Prod.fst e1; dsimp only at this; rw [← this]; exact hp
          exact ho (true = true → p) (List.mem_append_left _ (List.mem_map.2 ⟨p, this, rfl⟩)) rfl))
        have := congrArg Prod.snd e1
        dsimp only at this
        rw [this] at h1
        exact h1
      | false =>
        have h1 := nb_rel (ug_rel ht (fun p hp => by
          have : p ∈ ob := by have := congrArg Prod.fst e2; dsimp only at this; rw [← this]; exact hp
          exact ho (false = false → p) (List.mem_append_right _ (List.mem_map.2 ⟨p, this, rfl⟩)) rfl))
        have := congrArg Prod.snd e2
        dsimp only at this
        rw [this] at h1
        exact h1
    . cases hop
  . cases hop
theorem un_sound {op : UnOp} {s' : SV} (hop : St.un op s = some (obs, s')) (hs : s.rel C v) : ∃ v', (Op.unary op v).run E.P w = .ok v' w ∧ s'.rel C v' := by
  unfold St.un at hop
  split at hop
  . cases hop
    have := VRep_bool.1 hs
    subst this
    exact ⟨_, rfl, VRep_bool.2 rfl⟩
  . cases hop
    have hs : v = _ := hs
    subst hs
    exact ⟨_, rfl, rfl⟩
  . cases hop
    obtain ⟨rfl, _⟩ := VRep_int.1 hs
    exact ⟨_, rfl, VRep_int.2 ⟨rfl, wrap_InR _ _⟩⟩
  . cases hop
    obtain ⟨rfl, _⟩ := VRep_int.1 hs
    exact ⟨_, rfl, VRep_int.2 ⟨rfl, wrap_InR _ _⟩⟩
  . cases hop
theorem bnd_sound (h : StRel B ρ st a fs w) {x : Option Operand} {o : List Prop} {l : Option Int} (hb : st.bnd x = some (o, l)) (ho : ∀ p ∈ o, p) : ∃ k, x.map a.eval = ints k l := by
  unfold St.bnd at hb
  split at hb
  . cases hb; exact ⟨.i64, rfl⟩
  . rename_i x
    split at hb
    . rename_i o' k n e
      cases hb
      have h1 := g_rel h x (by rw [e]; exact ho)
      rw [e] at h1
      obtain ⟨h2, _⟩ := VRep_int.1 h1
      exact ⟨k, by simp [ints, h2]⟩
    . cases hb
theorem evs_rel (h : StRel B ρ st a fs w) : ∀ l : List Operand, SV.rels (cx B ρ st.hp w) (l.map st.ev) (l.map a.eval)
  | [] => rfl
  | x :: l => ⟨_, _, rfl, ev_rel h x, evs_rel h l⟩
theorem op1a_sound (hE : E.Ok) (h : StRel B ρ st a fs w) {o : Oper} (hop : st.op1a E o = some (obs, s)) (ho : ∀ p ∈ obs, p) :
    ∃ v, (execOp a.eval o).run E.P w = .ok (.value v) w ∧ s.rel (cx B ρ st.hp w) v := by
  have val : ∀ {m : Sem Value}, (∃ v, m.run E.P w = .ok v w ∧ s.rel (cx B ρ st.hp w) v) → ∃ v, (do pure (Next.value (← m)) : Sem Next).run E.P w = .ok (.value v) w ∧ s.rel (cx B ρ st.hp w) v := by
    intro m ⟨v, h1, h2⟩
    exact ⟨v, by simp only [Sem.run_bind, h1, Result.andThen_ok, Sem.run_pure], h2⟩
  unfold St.op1a at hop
  unfold execOp
  split at hop
  . rename_i x e; rw [e]; cases hop; exact ⟨_, rfl, ev_rel h x⟩
  . rename_i x e; rw [e]; cases hop; exact ⟨_, rfl, ev_rel h x⟩
  . rename_i c a' b e
    rw [e]
    dsimp only
    split at hop
    . rename_i o' c' e1
      obtain ⟨p, h1, rfl⟩ := addObs_eq hop
      have h2 := g_rel h c (by rw [e1]; exact fun p hp => ho p (List.mem_append_left _ hp))
      rw [e1] at h2
      have h3 := VRep_bool.1 h2
      refine ⟨_, by simp [h3]; rfl, joinIf_sound h1 (fun p hp => ho p (List.mem_append_right _ hp)) (ev_rel h a') (ev_rel h b)⟩
    . rename_i o' e1
      cases hop
      have h2 := g_rel h c (by rw [e1]; exact ho)
      rw [e1] at h2
      have h2 : a.eval c = _ := h2
      refine ⟨_, by simp [h2]; rfl, ev_rel h a'⟩
    . rename_i o' e1
      cases hop
      have h2 := g_rel h c (by rw [e1]; exact ho)
      rw [e1] at h2
      have h2 : a.eval c = _ := h2
      refine ⟨_, by simp [h2]; rfl, ev_rel h b⟩
    . cases hop
  . rename_i op ty x y _ e
    rw [e]
    dsimp only
    split at hop
    . rename_i o' s' h1
      cases hop
      exact val (ifcNil_sound hE h1 (g_rel h x ho))
    obtain ⟨p, h1, rfl⟩ := addObs_eq hop
    exact val (bin_sound hE h1 (fun p hp => ho p (List.mem_append_right _ hp)) (nb_rel (g_rel h x (fun p hp => ho p (List.mem_append_left _ (List.mem_append_left _ hp))))) (nb_rel (g_rel h y (fun p hp => ho p (List.mem_append_left _ (List.mem_append_right _ hp))))) x y)
  . rename_i x _ t ok e
    rw [e]
    dsimp only
    obtain ⟨p, h1, rfl⟩ := addObs_eq hop
    exact val (assert_sound hE h1 (g_rel h x (fun p hp => ho p (List.mem_append_left _ hp))))
  . rename_i op _ x e
    rw [e]
    dsimp only
    obtain ⟨p, h1, rfl⟩ := addObs_eq hop
    exact val (un_sound h1 (g_rel h x (fun p hp => ho p (List.mem_append_left _ hp))))
  . rename_i src dst x e
    rw [e]
    dsimp only
    obtain ⟨p, h1, rfl⟩ := addObs_eq hop
    exact val (conv_sound hE h h1 (fun p hp => ho p (List.mem_append_right _ hp)) (g_rel h x (fun p hp => ho p (List.mem_append_left _ hp))))
  . rename_i t x e
    rw [e]
    dsimp only
    obtain ⟨p, h1, rfl⟩ := addObs_eq hop
    exact val (load_sound hE h h1 (fun p hp => ho p (List.mem_append_right _ hp)) (g_rel h x (fun p hp => ho p (List.mem_append_left _ hp))))
  . rename_i t x i e
    rw [e]
    dsimp only
    split at hop
    . rename_i o' k j e1
      obtain ⟨p, h1, rfl⟩ := addObs_eq hop
      have h2 := g_rel h i (by rw [e1]; exact fun p hp => ho p (List.mem_append_left _ (List.mem_append_right _ hp)))
      rw [e1] at h2
      obtain ⟨h3, _⟩ := VRep_int.1 h2
      rw [h3]
      exact val (indexAddr_sound hE h h1 (fun p hp => ho p (List.mem_append_right _ hp)) (g_rel h x (fun p hp => ho p (List.mem_append_left _ (List.mem_append_left _ hp)))))
    . cases hop
  . rename_i t x i e
    rw [e]
    dsimp only
    split at hop
    . rename_i o' k j e1
      obtain ⟨p, h1, rfl⟩ := addObs_eq hop
      have h2 := g_rel h i (by rw [e1]; exact fun p hp => ho p (List.mem_append_left _ (List.mem_append_right _ hp)))
      rw [e1] at h2
      obtain ⟨h3, _⟩ := VRep_int.1 h2
      rw [h3]
      exact val (index_sound hE h1 (fun p hp => ho p (List.mem_append_right _ hp)) (g_rel h x (fun p hp => ho p (List.mem_append_left _ (List.mem_append_left _ hp)))))
    . cases hop
  . rename_i t x lo hi e
    rw [e]
    dsimp only
    split at hop
    . rename_i o1 l o2 hh e1 e2
      obtain ⟨p, h1, rfl⟩ := addObs_eq hop
      obtain ⟨kl, h2⟩ := bnd_sound h e1 (fun p hp => ho p (List.mem_append_left _ (List.mem_append_right _ (List.mem_append_left _ hp))))
      obtain ⟨kh, h3⟩ := bnd_sound h e2 (fun p hp => ho p (List.mem_append_left _ (List.mem_append_right _ (List.mem_append_right _ hp))))
      rw [h2, h3]
      exact val (slice_sound hE h h1 (fun p hp => ho p (List.mem_append_right _ hp)) (g_rel h x (fun p hp => ho p (List.mem_append_left _ (List.mem_append_left _ hp)))))
    . cases hop
  . rename_i t x f e
    rw [e]
    dsimp only
    obtain ⟨p, h1, rfl⟩ := addObs_eq hop
    exact val (field_sound hE h1 (g_rel h x (fun p hp => ho p (List.mem_append_left _ hp))))
  . rename_i t x f e
    rw [e]
    dsimp only
    obtain ⟨p, h1, rfl⟩ := addObs_eq hop
    exact val (fieldAddr_sound hE h1 (g_rel h x (fun p hp => ho p (List.mem_append_left _ hp))))
  . rename_i x e
    obtain ⟨p, h1, rfl⟩ := addObs_eq hop
    have := nilCheck_sound (E := E) (w := w) h1 (g_rel h x (fun p hp => ho p (List.mem_append_left _ hp))) x o e rfl
    unfold execOp at this
    exact ⟨_, this⟩
  . rename_i x i e
    rw [e]
    dsimp only
    split at hop
    . rename_i o' l e1
      split at hop
      . rename_i s0 e2
        cases hop
        have h2 := g_rel h x (by rw [e1]; exact ho)
        rw [e1] at h2
        obtain ⟨vs, h3, h4⟩ := h2
        obtain ⟨v, h5, h6⟩ := rels_get h4 e2
        exact val ⟨v, by rw [h3]; simp [Instr.extract, h5], h6⟩
      . cases hop
    . cases hop
  . rename_i f first cap e
    rw [e]
    dsimp only
    split at hop
    . rename_i hf
      cases hop
      have hf : first = #[] := by simpa using hf
      subst hf
      refine val ⟨_, rfl, _, ?_, evs_rel h cap.toList⟩
      rw [← List.map_toArray, Array.toArray_toList, List.map_toArray, List.map_nil]
    . cases hop
  . rename_i t x e
    rw [e]
    dsimp only
    split at hop
    . rename_i hk
      cases hop
      have hd := hE.d t
      obtain ⟨u, hu⟩ := TD.known_some hd (TD.conc_known hk)
      refine val ⟨.iface t (a.eval x), ?_, _, rfl, ev_rel h x⟩
      simp only [Instr.makeInterface, Sem.run_bind, run_underlying hu, Result.andThen_ok]
      have : ∀ ms, u ≠ .interface ms := by
        intro ms e'
        subst e'
        cases hq : E.d t <;> rw [hq] at hd hk <;> simp only [TD.conc, Bool.false_eq_true] at hk
        case st l => have := hd.1; rw [hu] at this; cases this
        case fn => obtain ⟨p, r, vv, this⟩ := hd; rw [hu] at this; cases this
        all_goals (have hd : E.P.underlying t = _ := hd; rw [hu] at hd; cases hd)
      cases u <;> first | rfl | exact absurd rfl (this _)
    . cases hop
  . rename_i c e
    rw [e]
    dsimp only
    unfold St.op1Call at hop
    split at hop
    . rename_i x t e1 e2 e3
      obtain ⟨p, h1, rfl⟩ := addObs_eq hop
      have e2 : c.args = #[x] := by apply Array.ext'; simpa using e2
      have e3 : c.argTypes = #[t] := by apply Array.ext'; simpa using e3
      obtain ⟨v', h2, h3⟩ := len_sound (ty := o.type) hE h h1 (g_rel h x (fun p hp => ho p (List.mem_append_left _ hp)))
      refine ⟨v', ?_, h3⟩
      simp only [resolve, e1, e2, e3, Sem.run_bind, Sem.run_pure, Result.andThen_ok, invoke, builtin, List.map_toArray, List.map_cons, List.map_nil, h2]
    . rename_i _ x y e1 e2
      split at hop
      . rename_i o1 k n o2 k' m e3 e4
        split at hop
        . rename_i hk
          subst hk
          cases hop
          have h1 := g_rel h x (by rw [e3]; exact fun p hp => ho p (List.mem_append_left _ hp))
          have h2 := g_rel h y (by rw [e4]; exact fun p hp => ho p (List.mem_append_right _ hp))
          rw [e3] at h1
          rw [e4] at h2
          obtain ⟨h3, h5⟩ := VRep_int.1 h1
          obtain ⟨h4, h6⟩ := VRep_int.1 h2
          have e2 : c.args = #[x, y] := by apply Array.ext'; simpa using e2
          refine ⟨_, by simp only [resolve, e1, e2, Sem.run_bind, Sem.run_pure, Result.andThen_ok, invoke, builtin, List.map_toArray, List.map_cons, List.map_nil, h3, h4, run_min_int2], VRep_int.2 ⟨rfl, ?_⟩⟩
          split
          . exact h6
          . exact h5
        . cases hop
      . cases hop
    . rename_i _ x y e1 e2
      split at hop
      . rename_i o1 k n o2 k' m e3 e4
        split at hop
        . rename_i hk
          subst hk
          cases hop
          have h1 := g_rel h x (by rw [e3]; exact fun p hp => ho p (List.mem_append_left _ hp))
          have h2 := g_rel h y (by rw [e4]; exact fun p hp => ho p (List.mem_append_right _ hp))
          rw [e3] at h1
          rw [e4] at h2
          obtain ⟨h3, h5⟩ := VRep_int.1 h1
          obtain ⟨h4, h6⟩ := VRep_int.1 h2
          have e2 : c.args = #[x, y] := by apply Array.ext'; simpa using e2
          refine ⟨_, by simp only [resolve, e1, e2, Sem.run_bind, Sem.run_pure, Result.andThen_ok, invoke, builtin, List.map_toArray, List.map_cons, List.map_nil, h3, h4, run_max_int2], VRep_int.2 ⟨rfl, ?_⟩⟩
          split
          . exact h6
          . exact h5
        . cases hop
      . cases hop
    . cases hop
  . cases hop
end
end Go.Vc
end
section
namespace Go.Vc
open Go.RowKit
def lookD {α : Type} (d : α) (n : Int) : List (Int × α) → α
  | [] => d
  | p :: l => bif decide (n = p.1) then p.2 else lookD d n l
def lookB {α : Type} (n : Int) : List (Int × α) → Bool
  | [] => false
  | p :: l => decide (n = p.1) || lookB n l
def zeroOk (E : Ty) (e : Nat) (k : Kd) : Bool :=
  match E.P.info? e with
  | some inf => match inf.zero with
    | some (.agg _) => k.isAgg
    | some _ => !k.isAgg
    | none => false
  | none => false
def St.look2 (E : Ty) (t : Nat) (s i : SV) (ok : Bool) : PR :=
  match E.d t, s, i with
  | .map kt e, .dat (.mp k) xs, .dat (.int .i64) n => match E.d kt with
    | .int .i64 => if E.k e = some k ∧ zeroOk E e k = true then some ([], if ok then .tup [.dat k (lookD k.dft n xs), .dat .bool (lookB n xs)] else .dat k (lookD k.dft n xs)) else none
    | _ => none
  | _, _, _ => none
def St.index2 (E : Ty) (t : Nat) (s : SV) (j : Int) : PR :=
  match E.d t, s with
  | .arr m e, .dat (.arr n k) xs => if E.k e = some k ∧ n = m ∧ (E.d e).known = true then some ([0 ≤ j ∧ j < m], .dat k (xs.getD j.toNat k.dft)) else none
  | .arr m e, .agg l => match E.sz e with
    | some z => match ofCells E e ((l.drop (j.toNat * z)).take z) with
      | some s => some ([0 ≤ j ∧ j < m], s)
      | none => none
    | none => none
  | _, _ => none
def isFnTD : TD → Bool
  | .fn => true
  | _ => false
def St.bin2 (E : Ty) (ty : Nat) (op : BinOp) (s t : SV) : PR :=
  match op, s, t with
  | .eql, .dat .fn f, .cst .nilFunc => if isFnTD (E.d ty) then some ([], .dat .bool (Nat.beq f 0)) else none
  | .neq, .dat .fn f, .cst .nilFunc => if isFnTD (E.d ty) then some ([], .dat .bool (!Nat.beq f 0)) else none
  | .eql, .dat (.arr n a) x, .dat k y => if h : k = .arr n a then (if eqAll E ty (.arr n a) = true then some ([], .dat .bool (eqD (.arr n a) x (castT h y))) else none) else none
  | .neq, .dat (.arr n a) x, .dat k y => if h : k = .arr n a then (if eqAll E ty (.arr n a) = true then some ([], .dat .bool (!eqD (.arr n a) x (castT h y))) else none) else none
  | _, _, _ => none
def St.arrPtr (E : Ty) (t : Nat) (s : SV) : PR :=
  match E.d t, s with
  | .arr (m + 1) e, .dat (.sl k) xs => if E.k e = some k then some ([m + 1 ≤ xs.length], .adr (.arr (m + 1) k) (xs.take (m + 1))) else none
  | _, _ => none
def St.nil2 (s : SV) : PR :=
  match s with
  | .dat .fn f => some ([f ≠ (0 : Nat)], .dat .fn f)
  | _ => none
def St.entryM (st : St) (s : SV) : PR :=
  match s with
  | .ptr n 0 => match st.hp[n]? with
    | some (some (.miter k xs seen)) => some ([seen ≠ []], .tup [.dat (.int .i64) (xs.getD (seen.getLastD 0) ((0 : Int), k.dft)).1, .dat k (xs.getD (seen.getLastD 0) ((0 : Int), k.dft)).2])
    | _ => none
  | _ => none
def St.op2 (E : Ty) (st : St) (o : Oper) : PR :=
  match o.op with
  | .lookup t x i ok => addObs ((st.g x).1 ++ (st.g i).1) (St.look2 E t (st.g x).2 (st.g i).2 ok)
  | .index t x i => match st.g i with
    | (o, .dat (.int _) j) => addObs ((st.g x).1 ++ o) (St.index2 E t (st.g x).2 j)
    | _ => none
  | .binOp op ty x y _ => addObs ((st.g x).1 ++ (st.g y).1) (St.bin2 E ty op (st.g x).2 (st.g y).2)
  | .sliceToArrayPointer t x => addObs (st.g x).1 (St.arrPtr E t (st.g x).2)
  | .nilCheck x => addObs (st.g x).1 (St.nil2 (st.g x).2)
  | .entry x => addObs (st.g x).1 (st.entryM (st.g x).2)
  | _ => none
def St.op1 (E : Ty) (st : St) (o : Oper) : PR :=
  match st.op1a E o with
  | some r => some r
  | none => st.op2 E o
section
variable {E : Ty} {B : Base} {ρ : Nat → Value} {st : St} {a : Act} {fs : List Act} {w : World} {obs : List Prop} {s : SV} {v : Value} {C : Cx}
theorem find_ent {α : Type} {rep : α → List Value → Prop} {agg : Bool} {n : Int} (d : α) : ∀ {xs : List (Int × α)} {es : List MapEntry} (i : Nat), EntL rep agg xs es →
    (lookB n xs = false ∧ lookD d n xs = d ∧ Instr.findNow (.int .i64) (.int .i64 n) es i = some none) ∨
    (lookB n xs = true ∧ ∃ j v cs, Instr.findNow (.int .i64) (.int .i64 n) es i = some (some (j, v)) ∧ rep (lookD d n xs) cs ∧ if agg then v = .agg cs.toArray else cs = [v])
  | [], es, i, h => by
    have h : es = [] := h
    subst h
    exact .inl ⟨rfl, rfl, rfl⟩
  | x :: xs, es, i, h => by
    obtain ⟨e, r, rfl, hk, _, ⟨cs, h1, h2⟩, h3⟩ := h
    by_cases hx : n = x.1
    . refine .inr ⟨by simp [lookB, hx], i, e.val, cs, ?_, ?_, h2⟩
      . simp [Instr.findNow, hk, Instr.sameNow, hx]
      . simpa [lookD, hx] using h1
    . have e1 : Instr.findNow (.int .i64) (.int .i64 n) (e :: r) i = Instr.findNow (.int .i64) (.int .i64 n) r (i + 1) := by
        have : (n == x.1) = false := by simpa using hx
        simp [Instr.findNow, hk, Instr.sameNow, this]
      have e2 : lookD d n (x :: xs) = lookD d n xs := by simp [lookD, hx]
      have e3 : lookB n (x :: xs) = lookB n xs := by simp [lookB, hx]
      rw [e1, e2, e3]
      exact find_ent d (i + 1) h3
theorem rep_zero0 {w : World} {F : Nat → Prop} : ∀ k : Kd, Rep w F k k.dft k.zero
  | .int k => ⟨rfl, by cases k <;> exact ⟨by decide, by decide⟩⟩
  | .bool => rfl
  | .str => ⟨⟨#[]⟩, rfl, rfl, by show (0 : Nat) ≤ _; omega⟩
  | .sl k => ⟨none, 0, rfl, Nat.le_refl _, by omega, fun h => absurd rfl h⟩
  | .pair a b => ⟨a.zero, b.zero, rfl, rep_zero0 a, rep_zero0 b⟩
  | .unit => rfl
  | .err => .inl ⟨rfl, rfl⟩
  | .fn => .inl ⟨rfl, rfl⟩
  | .mp _ => .inl ⟨rfl, rfl⟩
  | .arr n k => by
    refine ⟨List.length_replicate, ?_⟩
    show RepL _ (List.replicate n k.dft) (List.replicate n k.zero).flatten
    induction n with
    | zero => rfl
    | succ n ih => exact ⟨k.zero, _, rfl, rep_zero0 k, ih⟩
theorem zero_len (k : Kd) : k.zero.length = k.sz := (rep_zero0 (w := default) (F := fun _ => False) k).length
theorem VRep_zero {w : World} {F : Nat → Prop} {k : Kd} {e : Nat} {inf : TypeInfo} {z : Value} (h0 : zeroOk E e k = true) (hi : E.P.info? e = some inf) (hz0 : inf.zero = some z) (hz : z.cells.toList = k.zero) : VRep w F k k.dft z := by
  refine ⟨k.zero, rep_zero0 k, ?_⟩
  unfold zeroOk at h0
  simp only [hi, hz0] at h0
  cases z with
  | agg cs => rw [if_pos h0, ← hz]; rfl
  | _ => simp only [Bool.not_eq_true'] at h0; rw [if_neg (by rw [h0]; simp), ← hz]; rfl
theorem look2_sound (hE : E.Ok) (hw : C.w = w) {t : Nat} {s i s' : SV} {ok : Bool} {v u : Value}
    (hop : St.look2 E t s i ok = some (obs, s')) (hs : s.rel C v) (hi : i.rel C u) : ∃ v', (Instr.lookup t v u ok).run E.P w = .ok v' w ∧ s'.rel C v' := by
  have hd := hE.d t
  unfold St.look2 at hop
  split at hop
  . rename_i kt e k xs n e1
    rw [e1] at hd
    have hd : E.P.underlying t = some (.map kt e) := hd
    split at hop
    . rename_i e2
      have hkt := hE.d kt
      rw [e2] at hkt
      have hkt : E.P.underlying kt = some (.int .i64) := hkt
      split at hop
      . rename_i hk
        obtain ⟨hk, hz0⟩ := hk
        cases hop
        obtain ⟨hagg, _, inf, z, hinf, hsz, _, hz, hzc⟩ := hE.k hk
        obtain ⟨rfl, hin⟩ := VRep_int.1 hi
        have hzr : (zeroValue e).run E.P w = .ok z w := by simp [zeroValue, typeInfo, hinf, hz]
        have hz2 : VRep w C.F k k.dft z := VRep_zero hz0 hinf hz hzc
        have chk : ∀ b n', (Instr.checkKey b 10000 kt (.int .i64 n')).run E.P w = .ok () w := fun b n' => by
          show (Instr.checkKey b (9999 + 1) kt (.int .i64 n')).run E.P w = .ok () w
          unfold Instr.checkKey
          simp only [Sem.run_bind, run_underlying hkt, Result.andThen]
          rfl
        have fin : ∀ (v0 : Value), VRep C.w C.F k (lookD k.dft n xs) v0 → (if ok = true then SV.tup [.dat k (lookD k.dft n xs), .dat .bool (lookB n xs)] else .dat k (lookD k.dft n xs)).rel C (if ok = true then .tuple #[v0, .bool (lookB n xs)] else v0) := by
          intro v0 h0
          cases ok with
          | true => exact ⟨[_, _], rfl, _, _, rfl, h0, _, _, rfl, VRep_bool.2 rfl, rfl⟩
          | false => exact h0
        rcases VRep_mp.1 hs with ⟨rfl, hv⟩ | ⟨r, es, clock, hv, ⟨h1, h2, h3, _⟩, hent⟩
        . simp only [List.cons.injEq, and_true] at hv
          subst hv
          refine ⟨if ok = true then .tuple #[z, .bool false] else z, ?_, fin z (by rw [hw]; exact hz2)⟩
          simp only [Instr.lookup, Sem.run_bind, run_underlying hd, Result.andThen_ok, Sem.run_pure, chk, MapKept.run_findKey hkt (show Instr.findNow (.int .i64) (.int .i64 n) [] 0 = some none from rfl), hzr]
        . simp only [List.cons.injEq, and_true] at hv
          subst hv
          rw [hw] at h3
          rcases find_ent (n := n) k.dft 0 hent with ⟨f1, f2, f3⟩ | ⟨f1, j, v0, cs, f3, f4, f5⟩
          . refine ⟨if ok = true then .tuple #[z, .bool (lookB n xs)] else z, ?_, fin z (by rw [f2, hw]; exact hz2)⟩
            simp only [Instr.lookup, Sem.run_bind, run_underlying hd, Result.andThen_ok, Sem.run_pure, MapKept.run_getObj_map h3, chk, MapKept.run_findKey hkt f3, hzr, f1]
          . refine ⟨if ok = true then .tuple #[v0, .bool (lookB n xs)] else v0, ?_, fin v0 ⟨cs, f4, f5⟩⟩
            simp only [Instr.lookup, Sem.run_bind, run_underlying hd, Result.andThen_ok, Sem.run_pure, MapKept.run_getObj_map h3, chk, MapKept.run_findKey hkt f3, f1]
      . cases hop
    . cases hop
  . cases hop
theorem repL_seg {α : Type} {rep : α → List Value → Prop} {sz : Nat} : ∀ {xs : List α} {cs : List Value}, RepL rep xs cs → (∀ x c, rep x c → c.length = sz) → ∀ {i : Nat} {x : α}, xs[i]? = some x → rep x ((cs.drop (i * sz)).take sz)
  | [], _, _, _, i, x, hi => by cases hi
  | y :: xs, _, h, hl, i, x, hi => by
    obtain ⟨c1, c2, rfl, h1, h2⟩ := h
    have h3 := hl _ _ h1
    cases i with
    | zero =>
      cases hi
      rw [Nat.zero_mul, List.drop_zero, List.take_append_of_le_length (by omega), List.take_of_length_le (by omega)]
      exact h1
    | succ i =>
      rw [Nat.add_mul, Nat.one_mul, Nat.add_comm, ← List.drop_drop, ← h3, List.drop_left, h3]
      exact repL_seg h2 hl (i := i) hi
theorem repL_of_els {α : Type} {rep : α → List Value → Prop} {sz : Nat} (hl : ∀ x c, rep x c → c.length = sz) : ∀ {xs : List α} {ad : Addr}, Els w rep sz ad xs → ∃ cs, RepL rep xs cs ∧ ∀ (j : Nat) (u : Value), cs[j]? = some u → w.cell? (ad.add j) = some u
  | [], ad, _ => ⟨[], rfl, fun j u h => by cases h⟩
  | x :: xs, ad, h => by
    obtain ⟨ecs, h1, h2⟩ := h 0 x rfl
    have ht : Els w rep sz (ad.add sz) xs := fun i y hy => by
      obtain ⟨ec, h3, h4⟩ := h (i + 1) y hy
      refine ⟨ec, h3, fun j u hu => ?_⟩
      have := h4 j u hu
      rw [addr_add_add]
      rwa [Nat.add_mul, Nat.one_mul, Nat.add_comm (i * sz) sz, Nat.add_assoc] at this
    obtain ⟨cs, h5, h6⟩ := repL_of_els hl ht
    have h7 := hl _ _ h1
    refine ⟨ecs ++ cs, ⟨ecs, cs, rfl, h1, h5⟩, fun j u hu => ?_⟩
    by_cases hj : j < ecs.length
    . rw [List.getElem?_append_left hj] at hu
      have := h2 j u hu
      rwa [Nat.zero_mul, Nat.zero_add] at this
    . rw [List.getElem?_append_right (by omega)] at hu
      have := h6 _ u hu
      rwa [addr_add_add, show sz + (j - ecs.length) = j by omega] at this
theorem index2_sound (hE : E.Ok) (hw : C.w = w) {t : Nat} {s s' : SV} {kj : IntKind} {j : Int} {v : Value} (hop : St.index2 E t s j = some (obs, s')) (ho : ∀ p ∈ obs, p) (hs : s.rel C v) :
    ∃ v', (Instr.index t v (.int kj j)).run E.P w = .ok v' w ∧ s'.rel C v' := by
  have hd := hE.d t
  unfold St.index2 at hop
  split at hop
  . rename_i m e n k xs e1
    rw [e1] at hd
    have hd : E.P.underlying t = some (.array m e) := hd
    split at hop
    . rename_i hc
      obtain ⟨hk, rfl, hkn⟩ := hc
      cases hop
      obtain ⟨hagg, _, inf, z, hinf, hsz, _⟩ := hE.k hk
      have hj : 0 ≤ j ∧ j < (n : Int) := ho _ (by simp)
      obtain ⟨cs, ⟨h1, h2⟩, h3⟩ := hs
      rw [if_pos (show (Kd.arr n k).isAgg = true from rfl)] at h3
      subst h3
      have h1' : List.length (α := k.T) xs = n := h1
      have hlt : j.toNat < List.length (α := k.T) xs := by omega
      have h4 := repL_seg h2 (fun x c hc => hc.length) (List.getElem?_eq_getElem hlt)
      have hdt := hE.d e
      have hx : xs.getD j.toNat k.dft = xs[j.toNat] := by rw [List.getD_eq_getElem?_getD, List.getElem?_eq_getElem hlt]; rfl
      rw [hx]
      refine ⟨if k.isAgg then .agg ((cs.drop (j.toNat * k.sz)).take k.sz).toArray else ((cs.drop (j.toNat * k.sz)).take k.sz).headD undef, ?_, VRep_of_cells h4⟩
      have h5 := h4.length
      simp only [Instr.index, asIntOf, Sem.run_bind, Sem.run_pure, run_underlying hd, Result.andThen_ok, hj, and_self, if_true, run_sizeOf hinf, part, run_isAgg hdt hkn, ← hagg, hsz]
      cases hb : k.isAgg with
      | true =>
        simp only [if_true, Sem.run_bind, run_sizeOf hinf, Result.andThen_ok, Sem.run_pure, hsz]
        congr 2
        apply Array.ext'
        simp [Array.toList_extract, List.extract_eq_take_drop]
      | false =>
        simp only [Bool.false_eq_true, if_false]
        have hs1 := sz_one hb
        rw [hs1, Nat.mul_one] at h5 ⊢
        match hv : (cs.drop j.toNat).take 1, h5 with
        | [c], _ =>
          have : cs[j.toNat]? = some c := by
            have h6 : ((cs.drop j.toNat).take 1)[0]? = some c := by rw [hv]; rfl
            simpa using h6
          simp [this]
    . cases hop
  . rename_i m e l e1
    rw [e1] at hd
    have hd : E.P.underlying t = some (.array m e) := hd
    split at hop
    . rename_i z hz
      split at hop
      . rename_i s0 e3
        cases hop
        have hj : 0 ≤ j ∧ j < (m : Int) := ho _ (by simp)
        obtain ⟨vs, rfl, hr⟩ := hs
        obtain ⟨inf, hinf, hsz, _⟩ := hE.sz hz
        obtain ⟨v', h5, h6⟩ := run_part (w := w) (cs := vs.toArray) hE hz e3 (by simpa using hr)
        refine ⟨v', ?_, h6⟩
        simp only [Instr.index, asIntOf, Sem.run_bind, Sem.run_pure, run_underlying hd, Result.andThen_ok, hj, and_self, if_true, run_sizeOf hinf, hsz]
        exact h5
      . cases hop
    . cases hop
  . cases hop
theorem bin2_sound (hE : E.Ok) (hw : C.w = w) {ty : Nat} {op : BinOp} {s t s' : SV} {v u : Value} (hop : St.bin2 E ty op s t = some (obs, s')) (hs : s.rel C v) (ht : t.rel C u) (x y : Operand) :
    ∃ v', (do eqGuard op ty x y v u; binOp op ty v u : Sem Value).run E.P w = .ok v' w ∧ s'.rel C v' := by
  have hd := hE.d ty
  have fnq : ∀ f : Nat, VRep C.w C.F .fn f v → isFnTD (E.d ty) = true → (Op.equal ty v .nilFunc).run E.P w = .ok (Nat.beq f 0) w ∧ (∀ cs, v ≠ .agg cs) ∧ v ≠ .nilIface := by
    intro f hf hq
    cases hdd : E.d ty <;> rw [hdd] at hq hd <;> simp only [isFnTD, Bool.false_eq_true] at hq
    obtain ⟨p, r, vv, hd⟩ := hd
    rcases VRep_fn.1 hf with ⟨rfl, rfl⟩ | ⟨n, rfl, rfl⟩
    . exact ⟨nil_fn0 hd 9999, by simp, by simp⟩
    . exact ⟨nil_fn hd 9999 _ _ _, by simp, by simp⟩
  unfold St.bin2 at hop
  split at hop
  . rename_i f
    split at hop
    . rename_i hq
      cases hop
      have ht : u = .nilFunc := ht
      subst ht
      obtain ⟨h1, h2, h3⟩ := fnq f hs hq
      refine ⟨.bool (Nat.beq f 0), ?_, VRep_bool.2 rfl⟩
      have eg : (eqGuard .eql ty x y v .nilFunc).run E.P w = .ok () w := by
        unfold eqGuard
        cases v <;> first | rfl | (exact absurd rfl (h2 _)) | (exact absurd rfl h3)
      simp only [Sem.run_bind, eg, Result.andThen_ok, binOp, h1, Sem.run_pure]
    . cases hop
  . rename_i f
    split at hop
    . rename_i hq
      cases hop
      have ht : u = .nilFunc := ht
      subst ht
      obtain ⟨h1, h2, h3⟩ := fnq f hs hq
      refine ⟨.bool (!Nat.beq f 0), ?_, VRep_bool.2 rfl⟩
      have eg : (eqGuard .neq ty x y v .nilFunc).run E.P w = .ok () w := by
        unfold eqGuard
        cases v <;> first | rfl | (exact absurd rfl (h2 _)) | (exact absurd rfl h3)
      simp only [Sem.run_bind, eg, Result.andThen_ok, binOp, h1, Sem.run_pure]
    . cases hop
  . rename_i n a' x' k y'
    split at hop
    . rename_i hk
      subst hk
      split at hop
      . rename_i hq
        cases hop
        exact ⟨_, (eqAll_sound hE hq hs ht x y).1, VRep_bool.2 rfl⟩
      . cases hop
    . cases hop
  . rename_i n a' x' k y'
    split at hop
    . rename_i hk
      subst hk
      split at hop
      . rename_i hq
        cases hop
        exact ⟨_, (eqAll_sound hE hq hs ht x y).2, VRep_bool.2 rfl⟩
      . cases hop
    . cases hop
  . cases hop
theorem arrPtr_sound (hE : E.Ok) (hw : C.w = w) {t : Nat} {s s' : SV} {v : Value} (hop : St.arrPtr E t s = some (obs, s')) (ho : ∀ p ∈ obs, p) (hs : s.rel C v) :
    ∃ v', (Instr.arrayAt t v).run E.P w = .ok v' w ∧ s'.rel C v' := by
  have hd := hE.d t
  unfold St.arrPtr at hop
  split at hop
  . rename_i m e k xs e1
    rw [e1] at hd
    have hd : E.P.underlying t = some (.array (m + 1) e) := hd
    split at hop
    . cases hop
      have hl : m + 1 ≤ xs.length := ho _ (by simp)
      obtain ⟨A, c, rfl, h1, h2, h3⟩ := VRep_sl.1 hs
      obtain ⟨ad, rfl, h4, h5, h6⟩ := h3 (fun e => by rw [e] at hl; simp at hl)
      have h7 : Els C.w (Rep C.w C.F k) k.sz ad (xs.take (m + 1)) := fun i x hx => by
        rw [List.getElem?_take] at hx
        split at hx
        . exact h6 i x hx
        . cases hx
      obtain ⟨cs, h8, h9⟩ := repL_of_els (fun x c hc => hc.length) h7
      refine ⟨.pointer (some ad), ?_, ad, cs, rfl, ⟨by rw [List.length_take]; omega, h8⟩, h4, h5, h9⟩
      have hn : ¬ xs.length < m + 1 := by omega
      simp only [Instr.arrayAt, Sem.run_bind, run_underlying hd, Result.andThen_ok, hn, if_false, Sem.run_pure]
    . cases hop
  . cases hop
theorem ent_get {α : Type} {rep : α → List Value → Prop} {agg : Bool} : ∀ {xs : List (Int × α)} {es : List MapEntry}, EntL rep agg xs es → es.length = xs.length ∧
    ∀ (i : Nat) (e : MapEntry), es[i]? = some e → ∃ x, xs[i]? = some x ∧ e.key = .int .i64 x.1 ∧ InR .i64 x.1 ∧ ∃ cs, rep x.2 cs ∧ if agg then e.val = .agg cs.toArray else cs = [e.val]
  | [], es, h => by
    have h : es = [] := h
    subst h
    exact ⟨rfl, fun i e he => by cases he⟩
  | x :: xs, es, h => by
    obtain ⟨e, r, rfl, h1, h2, h3, h4⟩ := h
    obtain ⟨h5, h6⟩ := ent_get h4
    refine ⟨by simp [h5], fun i e' he => ?_⟩
    cases i with
    | zero => cases he; exact ⟨x, rfl, h1, h2, h3⟩
    | succ i => exact h6 i e' he
theorem entryM_sound (h : StRel B ρ st a fs w) {s s' : SV} {v : Value} {P : Program} (hop : st.entryM s = some (obs, s')) (ho : ∀ p ∈ obs, p) (hs : s.rel (cx B ρ st.hp w) v) :
    ∃ v', (Instr.entry v).run P w = .ok v' w ∧ s'.rel (cx B ρ st.hp w) v' := by
  unfold St.entryM at hop
  split at hop
  . rename_i n
    obtain ⟨hn, b, hb, hxv⟩ := hs
    split at hop
    . rename_i k xs seen hob
      cases hop
      have hne : seen ≠ [] := ho _ (by simp)
      obtain ⟨b', r, es, clock, hb', ⟨h1, h2, h3, h4, h5⟩, hent, hseen, hh⟩ := h.h.obj n _ hob
      simp only at hb
      rw [hb] at hb'
      cases hb'
      have h3 : w.heap[r]? = some (.map es clock) := h3
      have hh : w.heap[b]? = _ := hh
      obtain ⟨hlen, hget⟩ := ent_get hent
      have hsp : seen = seen.dropLast ++ [seen.getLast hne] := (List.dropLast_concat_getLast hne).symm
      have hl : seen.getLastD 0 = seen.getLast hne := by rw [List.getLastD_eq_getLast?, List.getLast?_eq_some_getLast hne]; rfl
      have hi : seen.getLast hne < es.toList.length := by simpa using hseen _ (List.getLast_mem hne)
      obtain ⟨x0, hx0, hkey, hin, cs, hrep, hval⟩ := hget _ _ (List.getElem?_eq_getElem hi)
      have hx1 : xs.getD (seen.getLast hne) ((0 : Int), k.dft) = x0 := by rw [List.getD_eq_getElem?_getD, hx0]; rfl
      rw [hl, hx1]
      have hborn : (es.toList.map (·.born)).getD (seen.getLast hne) 0 = (es.toList[seen.getLast hne]).born := by
        have hi2 : seen.getLast hne < (es.toList.map (·.born)).length := by simpa using hi
        rw [List.getD_eq_getElem?_getD, List.getElem?_eq_getElem hi2, List.getElem_map]; rfl
      have hh2 : w.heap[b]? = some (.mapIter (some r) clock ((seen.dropLast.map fun i => (es.toList.map (·.born)).getD i 0).toArray.push (es.toList[seen.getLast hne]).born) clock) := by
        rw [hh, ← hborn, List.push_toArray]
        congr 3
        conv => lhs; rw [hsp]
        rw [List.map_append, List.map_singleton]
      refine ⟨_, by rw [hxv]; exact run_entry_at (P := P) w b r clock _ es clock _ hh2 h3 (List.getElem_mem hi) h4, [_, _], rfl, _, _, rfl, VRep_int.2 ⟨hkey, hin⟩, _, _, rfl, ⟨cs, hrep, hval⟩, rfl⟩
    . cases hop
  . cases hop
theorem op2_sound (hE : E.Ok) (h : StRel B ρ st a fs w) {o : Oper} (hop : st.op2 E o = some (obs, s)) (ho : ∀ p ∈ obs, p) :
    ∃ v, (execOp a.eval o).run E.P w = .ok (.value v) w ∧ s.rel (cx B ρ st.hp w) v := by
  have val : ∀ {m : Sem Value}, (∃ v, m.run E.P w = .ok v w ∧ s.rel (cx B ρ st.hp w) v) → ∃ v, (do pure (Next.value (← m)) : Sem Next).run E.P w = .ok (.value v) w ∧ s.rel (cx B ρ st.hp w) v := by
    intro m ⟨v, h1, h2⟩
    exact ⟨v, by simp only [Sem.run_bind, h1, Result.andThen_ok, Sem.run_pure], h2⟩
  unfold St.op2 at hop
  unfold execOp
  split at hop
  . rename_i t x i ok e
    rw [e]
    dsimp only
    obtain ⟨p, h1, rfl⟩ := addObs_eq hop
    exact val (look2_sound (C := cx B ρ st.hp w) hE rfl h1 (g_rel h x (fun p hp => ho p (List.mem_append_left _ (List.mem_append_left _ hp)))) (g_rel h i (fun p hp => ho p (List.mem_append_left _ (List.mem_append_right _ hp)))))
  . rename_i t x i e
    rw [e]
    dsimp only
    split at hop
    . rename_i o' k j e1
      obtain ⟨p, h1, rfl⟩ := addObs_eq hop
      have h2 := g_rel h i (by rw [e1]; exact fun p hp => ho p (List.mem_append_left _ (List.mem_append_right _ hp)))
      rw [e1] at h2
      obtain ⟨h3, _⟩ := VRep_int.1 h2
      rw [h3]
      exact val (index2_sound (C := cx B ρ st.hp w) hE rfl h1 (fun p hp => ho p (List.mem_append_right _ hp)) (g_rel h x (fun p hp => ho p (List.mem_append_left _ (List.mem_append_left _ hp)))))
    . cases hop
  . rename_i op ty x y _ e
    rw [e]
    dsimp only
    obtain ⟨p, h1, rfl⟩ := addObs_eq hop
    exact val (bin2_sound (C := cx B ρ st.hp w) hE rfl h1 (g_rel h x (fun p hp => ho p (List.mem_append_left _ (List.mem_append_left _ hp)))) (g_rel h y (fun p hp => ho p (List.mem_append_left _ (List.mem_append_right _ hp)))) x y)
  . rename_i t x e
    rw [e]
    dsimp only
    obtain ⟨p, h1, rfl⟩ := addObs_eq hop
    exact val (arrPtr_sound (C := cx B ρ st.hp w) hE rfl h1 (fun p hp => ho p (List.mem_append_right _ hp)) (g_rel h x (fun p hp => ho p (List.mem_append_left _ hp))))
  . rename_i x e
    rw [e]
    dsimp only
    obtain ⟨p, h1, rfl⟩ := addObs_eq hop
    have hx := g_rel h x (fun p hp => ho p (List.mem_append_left _ hp))
    unfold St.nil2 at h1
    split at h1
    . rename_i f e2
      cases h1
      rw [e2] at hx
      have hf : f ≠ (0 : Nat) := ho _ (by simp)
      have hx' := hx
      rcases VRep_fn.1 hx with ⟨rfl, _⟩ | ⟨n, rfl, hv⟩
      . exact absurd rfl hf
      . rw [hv] at hx' ⊢
        exact ⟨_, rfl, hx'⟩
    . cases h1
  . rename_i x e
    rw [e]
    dsimp only
    obtain ⟨p, h1, rfl⟩ := addObs_eq hop
    exact val (entryM_sound h h1 (fun p hp => ho p (List.mem_append_right _ hp)) (g_rel h x (fun p hp => ho p (List.mem_append_left _ hp))))
  . cases hop
theorem op1_sound (hE : E.Ok) (h : StRel B ρ st a fs w) {o : Oper} (hop : st.op1 E o = some (obs, s)) (ho : ∀ p ∈ obs, p) :
    ∃ v, (execOp a.eval o).run E.P w = .ok (.value v) w ∧ s.rel (cx B ρ st.hp w) v := by
  unfold St.op1 at hop
  split at hop
  . rename_i r e
    cases hop
    exact op1a_sound hE h e ho
  . exact op2_sound hE h hop ho
end
end Go.Vc
end
section
namespace Go.Vc
open Go.RowKit
mutual
def SV.frz (n : Nat) (k : Kd) (xs : List k.T) : SV → SV
  | .own m => if m = n then .dat (.sl k) xs else .own m
  | .sub m k' off len => if m = n then (if k' = k then .dat (.sl k) ((xs.drop off).take len) else .junk) else .sub m k' off len
  | .rptr m => if m = n then .junk else .rptr m
  | .oel m k' i o => if m = n then .junk else .oel m k' i o
  | .fn f cap => .fn f (SV.frzs n k xs cap)
  | .tup l => .tup (SV.frzs n k xs l)
  | .agg l => .agg (SV.frzs n k xs l)
  | .ifc t s => .ifc t (SV.frz n k xs s)
  | .gd p s => .gd p (SV.frz n k xs s)
  | .dat k x => .dat k x
  | .cst c => .cst c
  | .ptr m o => .ptr m o
  | .adr k x => .adr k x
  | .yld => .yld
  | .aar k x => .aar k x
  | .junk => .junk
def SV.frzs (n : Nat) (k : Kd) (xs : List k.T) : List SV → List SV
  | [] => []
  | s :: l => SV.frz n k xs s :: SV.frzs n k xs l
end
def frzSlots (n : Nat) (k : Kd) (xs : List k.T) (sl : Slots) : Slots := sl.map fun p => (p.1, p.2.frz n k xs)
def Ob.frz (n : Nat) (k : Kd) (xs : List k.T) : Ob → Ob
  | .row e k' ys => .row e k' ys
  | .var t cs => .var t (SV.frzs n k xs cs)
  | .siter l pos => .siter l pos
  | .dfr => .dfr
  | .miter k ys seen => .miter k ys seen
  | .mapo k ys => .mapo k ys
def DE.frz (n : Nat) (k : Kd) (xs : List k.T) : DE → DE
  | .mark m => .mark m
  | .fn f cap => .fn f (SV.frzs n k xs cap)
def dfFrz (n : Nat) (k : Kd) (xs : List k.T) (l : List DE) : List DE := l.map (DE.frz n k xs)
def St.frz (st : St) (n : Nat) : St :=
  match st.row n with
  | some ⟨k, xs⟩ => { st with sl := frzSlots n k xs st.sl, stk := st.stk.map (fun p => (frzSlots n k xs p.1, dfFrz n k xs p.2)), df := dfFrz n k xs st.df, hp := (st.hp.set n none).map (Option.map (Ob.frz n k xs)) }
  | none => st
structure Thaw (C C' : Cx) (n : Nat) (k : Kd) (xs : List k.T) : Prop where
  le : C.le C'
  row : ∃ (A : Option Addr) (c : Nat), C.ρ n = .slice A xs.length c ∧ xs.length ≤ c ∧ c ≤ 9223372036854775807 ∧ (A = none → c = 0 ∧ xs = []) ∧
    ∀ ad, A = some ad → ad.block < C'.w.heap.size ∧ ¬ C'.F ad.block ∧ Els C'.w (Rep C'.w C'.F k) k.sz ad xs
mutual
theorem SV.rel.frz {C C' : Cx} {n : Nat} {k : Kd} {xs : List k.T} (T : Thaw C C' n k xs) : ∀ {s : SV} {v : Value}, s.rel C v → (s.frz n k xs).rel C' v
  | .own m, v, h => by
    simp only [SV.frz]
    split
    . rename_i e
      subst e
      obtain ⟨A, c, h1, h2, h3, h4, h5⟩ := T.row
      refine VRep_sl.2 ⟨A, c, h.2.1.trans h1, h2, h3, fun hne => ?_⟩
      cases A with
      | none => exact absurd (h4 rfl).2 hne
      | some ad => obtain ⟨h6, h7, h8⟩ := h5 ad rfl; exact ⟨ad, rfl, h6, h7, h8⟩
    . exact SV.rel.le (s := .own m) T.le h
  | .sub m k' off len, v, h => by
    simp only [SV.frz]
    split
    . rename_i e
      subst e
      split
      . rename_i e
        subst e
        obtain ⟨A, c, h1, h2, h3, h4, h5⟩ := T.row
        obtain ⟨_, A0, m', cap, A', c', e1, rfl, h6, h7, h8, h9⟩ := h
        rw [h1] at e1
        simp only [Value.slice.injEq] at e1
        obtain ⟨rfl, rfl, rfl⟩ := e1
        have hlen : ((xs.drop off).take len).length = len := by simp; omega
        refine VRep_sl.2 ⟨A', c', by rw [hlen], by omega, by omega, fun hne => ?_⟩
        have hpos : 0 < ((xs.drop off).take len).length := List.length_pos_iff.2 hne
        cases A with
        | none => have := (h4 rfl).2; subst this; simp at h6; omega
        | some ad =>
          obtain ⟨h10, h11, h12⟩ := h5 ad rfl
          rcases h9 with rfl | h9
          . exact ⟨_, rfl, by rw [add_block]; exact h10, by rw [add_block]; exact h11, els_cut h12 _ _⟩
          . omega
      . trivial
    . exact SV.rel.le (s := .sub m k' off len) T.le h
  | .rptr m, v, h => by
    simp only [SV.frz]
    split
    . trivial
    . exact SV.rel.le (s := .rptr m) T.le h
  | .oel m k' i o, v, h => by
    simp only [SV.frz]
    split
    . trivial
    . exact SV.rel.le (s := .oel m k' i o) T.le h
  | .fn f cap, v, h => by obtain ⟨vs, e, h⟩ := h; exact ⟨vs, e, SV.rels.frz T h⟩
  | .tup l, v, h => by obtain ⟨vs, e, h⟩ := h; exact ⟨vs, e, SV.rels.frz T h⟩
  | .agg l, v, h => by obtain ⟨vs, e, h⟩ := h; exact ⟨vs, e, SV.rels.frz T h⟩
  | .ifc t s, v, h => by obtain ⟨u, e, h⟩ := h; exact ⟨u, e, SV.rel.frz T h⟩
  | .gd p s, v, h => ⟨fun hp => SV.rel.frz T (h.1 hp), h.2⟩
  | .dat k x, v, h => SV.rel.le (s := .dat k x) T.le h
  | .cst c, v, h => h
  | .ptr m o, v, h => SV.rel.le (s := .ptr m o) T.le h
  | .adr k x, v, h => SV.rel.le (s := .adr k x) T.le h
  | .yld, v, h => SV.rel.le (s := .yld) T.le h
  | .aar k x, v, h => SV.rel.le (s := .aar k x) T.le h
  | .junk, _, _ => trivial
theorem SV.rels.frz {C C' : Cx} {n : Nat} {k : Kd} {xs : List k.T} (T : Thaw C C' n k xs) : ∀ {l : List SV} {vs : List Value}, SV.rels C l vs → SV.rels C' (SV.frzs n k xs l) vs
  | [], _, h => h
  | s :: l, vs, h => by
    obtain ⟨v, r, e, h1, h2⟩ := h
    exact ⟨v, r, e, SV.rel.frz T h1, SV.rels.frz T h2⟩
end
theorem DRel.frz {C C' : Cx} {n : Nat} {k : Kd} {xs : List k.T} (T : Thaw C C' n k xs) : ∀ {l : List DE} {ds : List Deferred}, DRel C l ds → DRel C' (dfFrz n k xs l) ds
  | [], _, h => h
  | .mark m :: l, ds, h => by
    obtain ⟨b, r, e, h1, h2, h3⟩ := h
    exact ⟨b, r, e, Nat.lt_of_lt_of_le h1 T.le.N, by rw [T.le.ρ m h1]; exact h2, DRel.frz T h3⟩
  | .fn f cap :: l, ds, h => by
    obtain ⟨vs, r, e, h1, h2⟩ := h
    exact ⟨vs, r, e, SV.rels.frz T h1, DRel.frz T h2⟩
theorem lookup_frz {n : Nat} {k : Kd} {xs : List k.T} {i : Nat} : ∀ {sl : Slots}, (frzSlots n k xs sl).lookup i = (sl.lookup i).map (SV.frz n k xs)
  | [] => rfl
  | (j, s) :: sl => by
    show List.lookup i ((j, s.frz n k xs) :: frzSlots n k xs sl) = _
    rw [lookup_cons, lookup_cons]
    split
    . rfl
    . exact lookup_frz
theorem StRel.frz {B : Base} {ρ : Nat → Value} {st : St} {a : Act} {fs : List Act} {w : World} (h : StRel B ρ st a fs w) (n : Nat) : StRel B ρ (st.frz n) a fs w := by
  unfold St.frz
  split
  . rename_i k xs hrow
    obtain ⟨e, he⟩ := St.row_some hrow
    obtain ⟨A, c, h1, h2, h3, h4, h5⟩ := row_rel (h.h.obj n _ he)
    have live' : ∀ m, live ((st.hp.set n none).map (Option.map (Ob.frz n k xs))) m → live st.hp m ∧ m ≠ n := by
      rintro m ⟨o, ho⟩
      rw [List.getElem?_map] at ho
      obtain ⟨o1, ho1, ho2⟩ := Option.map_eq_some_iff.1 ho
      by_cases hm : m = n
      . subst hm
        rw [List.getElem?_set] at ho1
        split at ho1
        . split at ho1
          . cases ho1; cases ho2
          . cases ho1
        . rename_i hc; exact absurd rfl hc
      . rw [List.getElem?_set_ne (Ne.symm hm)] at ho1
        obtain ⟨o2, rfl, _⟩ := Option.map_eq_some_iff.1 ho2
        exact ⟨⟨o2, ho1⟩, hm⟩
    have hle : (cx B ρ st.hp w).le (cx B ρ ((st.hp.set n none).map (Option.map (Ob.frz n k xs))) w) := ⟨Nat.le_refl _, fun _ _ _ => rfl, fun b _ hF => by
        rcases hF with hF | ⟨m, hm, hb⟩
        . exact .inl hF
        . exact .inr ⟨m, (live' m hm).1, hb⟩, by simp, fun _ _ => rfl, rfl⟩
    have T : Thaw (cx B ρ st.hp w) (cx B ρ ((st.hp.set n none).map (Option.map (Ob.frz n k xs))) w) n k xs := ⟨hle, A, c, h1, h2, h3, h4, fun ad hA => by
      obtain ⟨_, _, h6, h7, _⟩ := h5 ad hA
      have hbn : blk (ρ n) = some ad.block := by rw [h1, hA]; rfl
      refine ⟨h6, fun hF => ?_, h7.imp (fun x _ cs hr => hr.step hle.size hle.same hle.F) fun j u hu => hu⟩
      rcases hF with hF | ⟨m, hm, hb⟩
      . exact (h.h.own n _ ⟨_, he⟩ hbn).2 hF
      . obtain ⟨hm1, hm2⟩ := live' m hm
        exact hm2 (h.h.sep m n _ hm1 ⟨_, he⟩ hb hbn)⟩
    refine ⟨⟨h.h.kept, fun m o ho => ?_, fun a b c ha hb => h.h.sep a b c (live' a ha).1 (live' b hb).1, fun m b hm => h.h.own m b (live' m hm).1, h.h.fb⟩, ⟨h.s.1, fun i s hs => ?_⟩, h.kn, ?_, h.d.frz T, h.g⟩
    . have hl := live' m ⟨o, ho⟩
      rw [List.getElem?_map] at ho
      obtain ⟨o1, ho1, ho2⟩ := Option.map_eq_some_iff.1 ho
      rw [List.getElem?_set_ne (Ne.symm hl.2)] at ho1
      obtain ⟨o2, rfl, rfl⟩ := Option.map_eq_some_iff.1 ho2
      have hr := h.h.obj m o2 ho1
      cases o2 with
      | row e' k' ys => exact hr.le hle (fun _ _ => rfl)
      | var t cs =>
        obtain ⟨b, vs, e1, h6, h7⟩ := hr
        exact ⟨b, vs, e1, h6, SV.rels.frz T h7⟩
      | siter l pos => exact hr.le hle (fun _ _ => rfl)
      | dfr => exact hr.le hle (fun _ _ => rfl)
      | miter k' ys seen => exact hr.le hle (fun _ _ => rfl)
      | mapo k' ys => exact hr.le hle (fun _ _ => rfl)
    . rw [lookup_frz] at hs
      obtain ⟨s0, hs0, rfl⟩ := Option.map_eq_some_iff.1 hs
      exact ⟨(h.s.2 i s0 hs0).1, SV.rel.frz T (h.s.2 i s0 hs0).2⟩
    . have : ∀ {l : List (Slots × List DE)} {fs : List Act}, StkRel (cx B ρ st.hp w) l fs → StkRel (cx B ρ ((st.hp.set n none).map (Option.map (Ob.frz n k xs))) w) (l.map (fun p => (frzSlots n k xs p.1, dfFrz n k xs p.2))) fs := by
        intro l
        induction l with
        | nil => intro fs h; exact h
        | cons sl l ih =>
          rintro fs ⟨t, r, e, h6, h8, h7⟩
          refine ⟨t, r, e, ⟨h6.1, fun i s hs => ?_⟩, h8.frz T, ih h7⟩
          rw [lookup_frz] at hs
          obtain ⟨s0, hs0, rfl⟩ := Option.map_eq_some_iff.1 hs
          exact ⟨(h6.2 i s0 hs0).1, SV.rel.frz T (h6.2 i s0 hs0).2⟩
      exact this h.k
  . exact h
theorem StRel.thaw {B : Base} {ρ : Nat → Value} {st : St} {a : Act} {fs : List Act} {w : World} (h : StRel B ρ st a fs w) {n : Nat} {k : Kd} {xs : List k.T} (hrow : st.row n = some ⟨k, xs⟩) :
    Thaw (cx B ρ st.hp w) (cx B ρ ((st.hp.set n none).map (Option.map (Ob.frz n k xs))) w) n k xs := by
  obtain ⟨e, he⟩ := St.row_some hrow
  obtain ⟨A, c, h1, h2, h3, h4, h5⟩ := row_rel (h.h.obj n _ he)
  have live' : ∀ m, live ((st.hp.set n none).map (Option.map (Ob.frz n k xs))) m → live st.hp m ∧ m ≠ n := by
    rintro m ⟨o, ho⟩
    rw [List.getElem?_map] at ho
    obtain ⟨o1, ho1, ho2⟩ := Option.map_eq_some_iff.1 ho
    by_cases hm : m = n
    . subst hm
      rw [List.getElem?_set] at ho1
      split at ho1
      . split at ho1
        . cases ho1; cases ho2
        . cases ho1
      . rename_i hc; exact absurd rfl hc
    . rw [List.getElem?_set_ne (Ne.symm hm)] at ho1
      obtain ⟨o2, rfl, _⟩ := Option.map_eq_some_iff.1 ho2
      exact ⟨⟨o2, ho1⟩, hm⟩
  have hle : (cx B ρ st.hp w).le (cx B ρ ((st.hp.set n none).map (Option.map (Ob.frz n k xs))) w) := ⟨Nat.le_refl _, fun _ _ _ => rfl, fun b _ hF => by
      rcases hF with hF | ⟨m, hm, hb⟩
      . exact .inl hF
      . exact .inr ⟨m, (live' m hm).1, hb⟩, by simp, fun _ _ => rfl, rfl⟩
  exact ⟨hle, A, c, h1, h2, h3, h4, fun ad hA => by
    obtain ⟨_, _, h6, h7, _⟩ := h5 ad hA
    have hbn : blk (ρ n) = some ad.block := by rw [h1, hA]; rfl
    refine ⟨h6, fun hF => ?_, h7.imp (fun x _ cs hr => hr.step hle.size hle.same hle.F) fun j u hu => hu⟩
    rcases hF with hF | ⟨m, hm, hb⟩
    . exact (h.h.own n _ ⟨_, he⟩ hbn).2 hF
    . obtain ⟨hm1, hm2⟩ := live' m hm
      exact hm2 (h.h.sep m n _ hm1 ⟨_, he⟩ hb hbn)⟩
end Go.Vc
end
section
namespace Go.Vc
open Go.RowKit
def Yield (E : Ty) (B : Base) (o : Oper) (a : Act) (fs : List Act) (w : World) (kv : SV → St → Prop) : Prop :=
  ∃ n w' s st' ρ' v, (execOp a.eval o).run E.P w = .ok n w' ∧ (n = .value v ∨ (n = .skip ∧ v = undef)) ∧ kv s st' ∧ StRel B ρ' st' a fs w' ∧ s.rel (cx B ρ' st'.hp w') v
def asList (k : Kd) : List SV → Option (List k.T)
  | [] => some []
  | s :: l => match s.as k, asList k l with
    | some x, some xs => some (x :: xs)
    | _, _ => none
def newOb (E : Ty) (t : Nat) (l : List SV) : Ob :=
  match E.d t with
  | .arr m e => match E.k e with
    | some k => if (k.isAgg = false ∧ k ≠ .fn) ∧ l.length = m then
        match asList k l with
        | some xs => .row t k xs
        | none => .var t l
      else .var t l
    | none => .var t l
  | _ => .var t l
def obSV (n : Nat) : Ob → SV
  | .row _ _ _ => .rptr n
  | _ => .ptr n 0
section
variable {E : Ty} {B : Base} {ρ : Nat → Value} {st : St} {a : Act} {fs : List Act} {w : World} {kv : SV → St → Prop} {C : Cx}
theorem asList_rel {k : Kd} (hk : k.isAgg = false) : ∀ {l : List SV} {xs : List k.T} {vs : List Value}, asList k l = some xs → SV.rels C l vs →
    xs.length = l.length ∧ ∀ (i : Nat) (x : k.T), xs[i]? = some x → ∃ v, vs[i]? = some v ∧ Rep C.w C.F k x [v]
  | [], xs, vs, h, hr => by cases h; exact ⟨rfl, fun i x hx => by cases hx⟩
  | s :: l, xs, vs, h, hr => by
    simp only [asList] at h
    split at h
    . rename_i y ys e1 e2
      cases h
      obtain ⟨v, r, rfl, h1, h2⟩ := hr
      obtain ⟨h3, h4⟩ := asList_rel hk e2 h2
      refine ⟨by simp [h3], fun i x hx => ?_⟩
      cases i with
      | zero => cases hx; exact ⟨v, rfl, (VRep_one hk).1 (as_rel e1 h1)⟩
      | succ i => exact h4 i x hx
    . cases h
theorem new_sound (h : StRel B ρ st a fs w) (t : Nat) {l : List SV} {cells : Array Value} (hl : SV.rels (cx B ρ st.hp w) l cells.toList) (hlen : l.length ≤ 9223372036854775807) :
    ∃ ρ', StRel B ρ' { st with hp := st.hp ++ [some (newOb E t l)] } a fs (w.alloc (.cells cells t)) ∧
      (obSV st.hp.length (newOb E t l)).rel (cx B ρ' (st.hp ++ [some (newOb E t l)]) (w.alloc (.cells cells t))) (.pointer (some ⟨w.heap.size, 0, none⟩)) := by
  have hh : (w.alloc (.cells cells t)).heap[w.heap.size]? = some (.cells cells t (0, 0)) := heap_alloc_new w _
  have hcs : cells.size = l.length := by have := rels_length hl; simpa using this
  have var_ : ∃ ρ', StRel B ρ' { st with hp := st.hp ++ [some (.var t l)] } a fs (w.alloc (.cells cells t)) ∧
      (SV.ptr st.hp.length 0).rel (cx B ρ' (st.hp ++ [some (.var t l)]) (w.alloc (.cells cells t))) (.pointer (some ⟨w.heap.size, 0, none⟩)) := by
    have T : Turn B ρ (upd ρ st.hp.length (.pointer (some ⟨w.heap.size, 0, none⟩))) st.hp (st.hp ++ [some (.var t l)]) w (w.alloc (.cells cells t)) st.hp.length none :=
      Turn.new (World.grownBy_alloc w _ none) (fun b hb => by cases hb; exact Nat.le_refl _)
    refine ⟨_, h.turn T (fun o ho => ?_), by simp, w.heap.size, upd_same _ _ _, rfl⟩
    rw [getElem?_snoc] at ho
    cases ho
    rw [upd_same]
    exact ⟨w.heap.size, cells.toList, rfl, by simpa using hh, SV.rels.le T.le hl⟩
  unfold newOb
  split
  . rename_i m e _
    split
    . rename_i k _
      split
      . rename_i hk
        obtain ⟨⟨hk, _⟩, hm⟩ := hk
        split
        . rename_i xs hx
          have h1 := sz_one hk
          have T : Turn B ρ (upd ρ st.hp.length (.slice (some ⟨w.heap.size, 0, none⟩) l.length l.length)) st.hp (st.hp ++ [some (.row t k xs)]) w (w.alloc (.cells cells t)) st.hp.length none :=
            Turn.new (World.grownBy_alloc w _ none) (fun b hb => by cases hb; exact Nat.le_refl _)
          obtain ⟨h2, h3⟩ := asList_rel hk hx (SV.rels.le T.le hl)
          refine ⟨_, h.turn T (fun o ho => ?_), by simp, w.heap.size, l.length, l.length, upd_same _ _ _, rfl, rfl⟩
          rw [getElem?_snoc] at ho
          cases ho
          rw [upd_same]
          refine ⟨cells.toList, ?_, fun i x hi => ?_⟩
          . rw [h2, h1]
            exact .inl <| World.ownsRow_lit w cells l.length (Nat.zero_le _) (by simpa [maxLen] using hlen) (by rw [hcs]; omega)
          . obtain ⟨v, h4, h5⟩ := h3 i x hi
            rw [h1, Nat.mul_one]
            have : (cells.toList.drop i).take 1 = [v] := by
              have hi' : i < cells.toList.length := (List.getElem?_eq_some_iff.1 h4).1
              rw [List.drop_eq_getElem_cons hi']
              simp [(List.getElem?_eq_some_iff.1 h4).2]
            rw [this]; exact h5
        . exact var_
      . exact var_
    . exact var_
  . exact var_
theorem newArr_sound (h : StRel B ρ st a fs w) (t : Nat) {k : Kd} (hk : k.isAgg = false) {xs : List k.T} {cells : Array Value} (hl : RepL (Rep w (Forb B ρ st.hp) k) xs cells.toList) (hlen : xs.length ≤ 9223372036854775807) :
    ∃ ρ', StRel B ρ' { st with hp := st.hp ++ [some (.row t k xs)] } a fs (w.alloc (.cells cells t)) ∧
      (SV.rptr st.hp.length).rel (cx B ρ' (st.hp ++ [some (.row t k xs)]) (w.alloc (.cells cells t))) (.pointer (some ⟨w.heap.size, 0, none⟩)) := by
  have h1 := sz_one hk
  have hcs : cells.size = xs.length := by
    have := hl.length (sz := k.sz) fun x _ c hc => hc.length
    rw [h1, Nat.mul_one] at this
    simpa using this
  have T : Turn B ρ (upd ρ st.hp.length (.slice (some ⟨w.heap.size, 0, none⟩) xs.length xs.length)) st.hp (st.hp ++ [some (.row t k xs)]) w (w.alloc (.cells cells t)) st.hp.length none :=
    Turn.new (World.grownBy_alloc w _ none) (fun b hb => by cases hb; exact Nat.le_refl _)
  refine ⟨_, h.turn T (fun o ho => ?_), by simp, w.heap.size, xs.length, xs.length, upd_same _ _ _, rfl, rfl⟩
  rw [getElem?_snoc] at ho
  cases ho
  rw [upd_same]
  refine ⟨cells.toList, ?_, fun i x hi => ?_⟩
  . rw [h1]
    exact .inl <| World.ownsRow_lit w cells xs.length (Nat.zero_le _) (by simpa [maxLen] using hlen) (by rw [hcs]; omega)
  . exact (repL_seg hl (fun x c hc => hc.length) hi).step T.le.size T.le.same T.le.F
def boxOb (E : Ty) (t : Nat) (s : SV) (l : List SV) : Ob :=
  match s, E.d t with
  | .dat (.arr m k) xs, .arr m' e => if E.k e = some k ∧ k.isAgg = false ∧ k ≠ .fn ∧ m' = m then .row t k xs else newOb E t l
  | _, _ => newOb E t l
theorem boxOb_sound (h : StRel B ρ st a fs w) (t : Nat) {s : SV} {l : List SV} {v : Value} (hs : s.rel (cx B ρ st.hp w) v) (hl : SV.rels (cx B ρ st.hp w) l v.cells.toList) (hlen : l.length ≤ 65536) :
    ∃ ρ', StRel B ρ' { st with hp := st.hp ++ [some (boxOb E t s l)] } a fs (w.alloc (.cells v.cells t)) ∧
      (obSV st.hp.length (boxOb E t s l)).rel (cx B ρ' (st.hp ++ [some (boxOb E t s l)]) (w.alloc (.cells v.cells t))) (.pointer (some ⟨w.heap.size, 0, none⟩)) := by
  unfold boxOb
  split
  . rename_i m k xs m' e _
    split
    . rename_i hc
      obtain ⟨_, hk, _, rfl⟩ := hc
      obtain ⟨cs, ⟨h1, h2⟩, h3⟩ := hs
      rw [if_pos (show (Kd.arr m' k).isAgg = true from rfl)] at h3
      subst h3
      have hxl : List.length (α := k.T) xs ≤ 9223372036854775807 := by
        have e1 := h2.length (sz := k.sz) fun x _ c hc => hc.length
        have e2 := rels_length hl
        rw [sz_one hk, Nat.mul_one] at e1
        simp only [Value.cells] at e2
        omega
      exact newArr_sound h t hk (cells := cs.toArray) (by simpa using h2) hxl
    . exact new_sound h t hl (by omega)
  . exact new_sound h t hl (by omega)
def St.box (E : Ty) (st : St) (t : Nat) (s : SV) (kv : SV → St → Prop) : Prop :=
  match s.cells with
  | some l => l.length ≤ 65536 ∧ kv (obSV st.hp.length (boxOb E t s l)) { st with hp := st.hp ++ [some (boxOb E t s l)] }
  | none => False
theorem box_sound (h : StRel B ρ st a fs w) {t : Nat} {x : Operand} {o : Oper} (e : o.op = .box t x) (hk : st.box E t (st.ev x) kv) : Yield E B o a fs w kv := by
  unfold St.box at hk
  split at hk
  . rename_i l hl
    have hr := cells_rel hl (ev_rel h x)
    obtain ⟨ρ', h1, h2⟩ := boxOb_sound (E := E) h t (ev_rel h x) hr hk.1
    refine ⟨_, _, _, _, ρ', _, ?_, .inl rfl, hk.2, h1, h2⟩
    unfold execOp
    rw [e]
    simp only [Instr.box, newVar, newRow, Sem.run_bind, run_newObj_alloc, Result.andThen_ok, Sem.run_pure]
  . exact hk.elim
def St.alloc (E : Ty) (st : St) (t : Nat) (kv : SV → St → Prop) : Prop :=
  match E.z t with
  | some z => z.length ≤ 65536 ∧ kv (obSV st.hp.length (newOb E t (z.map cSV))) { st with hp := st.hp ++ [some (newOb E t (z.map cSV))] }
  | none => False
theorem cSVs_rel (C : Cx) : ∀ z : List Value, SV.rels C (z.map cSV) z
  | [] => rfl
  | v :: z => ⟨v, z, rfl, cSV_rel C v, cSVs_rel C z⟩
theorem alloc_sound (hE : E.Ok) (h : StRel B ρ st a fs w) {t : Nat} {o : Oper} (e : o.op = .alloc t) (hk : st.alloc E t kv) : Yield E B o a fs w kv := by
  unfold St.alloc at hk
  split at hk
  . rename_i z hz
    obtain ⟨inf, zv, h3, h4, h5, _⟩ := hE.z hz
    obtain ⟨ρ', h1, h2⟩ := new_sound (E := E) h t (cells := zv.cells) (by rw [h5]; exact cSVs_rel _ z) (by simp; omega)
    refine ⟨_, _, _, _, ρ', _, ?_, .inl rfl, hk.2, h1, h2⟩
    unfold execOp
    rw [e]
    simp [Instr.alloc, zeroValue, typeInfo, h3, h4, newVar, newRow]
  . exact hk.elim
end
def fillSV (place : Nat → Option (Nat × Nat)) (l : List SV) : List (Nat × SV) → Option (List SV)
  | [] => some l
  | (i, s) :: rest => match place i, s.cells with
    | some (off, size), some c => if c.length = size ∧ off + size ≤ l.length then fillSV place (l.take off ++ c ++ l.drop (off + size)) rest else none
    | _, _ => none
theorem set_fold (off : Nat) : ∀ (vs : List Value) (k : Nat) (cs : List Value), off + k + vs.length ≤ cs.length →
    (vs.zipIdx k).foldl (fun (cs : List Value) (p : Value × Nat) => cs.set (off + p.2) p.1) cs = cs.take (off + k) ++ vs ++ cs.drop (off + k + vs.length)
  | [], k, cs, h => by simp
  | v :: vs, k, cs, h => by
    simp only [List.zipIdx_cons, List.foldl_cons]
    rw [set_fold off vs (k + 1) _ (by simp only [List.length_set, List.length_cons] at *; omega)]
    have h0 : off + k < cs.length := by simp only [List.length_cons] at h; omega
    have e1 : (cs.set (off + k) v).take (off + (k + 1)) = cs.take (off + k) ++ [v] := by
      rw [← Nat.add_assoc, List.take_succ_eq_append_getElem (by simpa using h0)]
      simp [List.take_set_of_le]
    have e2 : (cs.set (off + k) v).drop (off + (k + 1) + vs.length) = cs.drop (off + k + (v :: vs).length) := by
      rw [List.drop_set_of_lt (by omega)]
      congr 1
      simp only [List.length_cons]; omega
    rw [e1, e2]
    simp
theorem fold_toList (off : Nat) (vs : Array Value) (cs : Array Value) (h : off + vs.size ≤ cs.size) :
    (vs.zipIdx.foldl (fun (cs : Array Value) (p : Value × Nat) => cs.setIfInBounds (off + p.2) p.1) cs).toList = cs.toList.take off ++ vs.toList ++ cs.toList.drop (off + vs.size) := by
  have key : ∀ (l : List (Value × Nat)) (cs : Array Value), (l.foldl (fun (cs : Array Value) (p : Value × Nat) => cs.setIfInBounds (off + p.2) p.1) cs).toList = l.foldl (fun (cs : List Value) (p : Value × Nat) => cs.set (off + p.2) p.1) cs.toList := by
    intro l
    induction l with
    | nil => intro cs; rfl
    | cons p l ih => intro cs; simp only [List.foldl_cons]; rw [ih]; simp
  rw [← Array.foldl_toList, key, Array.toList_zipIdx]
  have := set_fold off vs.toList 0 cs.toList (by simpa using h)
  simpa using this
inductive PartsRel (C : Cx) : List (Nat × SV) → List (Nat × Value) → Prop
  | nil : PartsRel C [] []
  | cons {i : Nat} {s : SV} {v : Value} {l : List (Nat × SV)} {r : List (Nat × Value)} (h : s.rel C v) (t : PartsRel C l r) : PartsRel C ((i, s) :: l) ((i, v) :: r)
theorem fill_rel {C : Cx} {place : Nat → Option (Nat × Nat)} : ∀ {parts : List (Nat × SV)} {ps : List (Nat × Value)} {l l' : List SV} {cells : Array Value}, PartsRel C parts ps → fillSV place l parts = some l' → SV.rels C l cells.toList →
    ∃ cells', Instr.fill place cells ps = some cells' ∧ SV.rels C l' cells'.toList
  | [], _, l, l', cells, hp, h, hr => by cases hp; cases h; exact ⟨cells, rfl, hr⟩
  | (i, s) :: rest, _, l, l', cells, hp, h, hr => by
    cases hp with
    | cons hs ht =>
      rename_i v r
      simp only [fillSV] at h
      split at h
      . rename_i off size c e1 e2
        split at h
        . rename_i hc
          have hcr := cells_rel e2 hs
          have hlen := rels_length hcr
          have hlen2 := rels_length hr
          simp only [Array.length_toList] at hlen hlen2
          have h1 : ¬ (v.cells.size ≠ size || off + v.cells.size > cells.size) = true := by
            simp only [Bool.or_eq_true, decide_eq_true_eq, not_or]
            omega
          refine (fill_rel (cells := v.cells.zipIdx.foldl (fun cs (c, j) => cs.setIfInBounds (off + j) c) cells) ht h ?_).imp fun cells' hh => ⟨?_, hh.2⟩
          . have := fold_toList off v.cells cells (by omega)
            rw [show (v.cells.zipIdx.foldl (fun cs (c, j) => cs.setIfInBounds (off + j) c) cells).toList = _ from this]
            refine rels_append (rels_append (rels_take off hr) hcr) ?_
            rw [hlen, hc.1]
            exact rels_drop _ hr
          . simp only [Instr.fill, e1]
            rw [if_neg h1]
            exact hh.1
        . cases h
      . cases h
def ownName : SV → Option Nat
  | .own n => some n
  | .sub n _ _ _ => some n
  | _ => none
def St.frzOps (st : St) : List Operand → St
  | [] => st
  | x :: l => match ownName (st.ev x) with
    | some n => (st.frz n).frzOps l
    | none => st.frzOps l
theorem frzOps_rel {B : Base} {ρ : Nat → Value} {a : Act} {fs : List Act} {w : World} : ∀ (l : List Operand) {st : St}, StRel B ρ st a fs w → StRel B ρ (st.frzOps l) a fs w
  | [], _, h => h
  | x :: l, st, h => by
    simp only [St.frzOps]
    split
    . exact frzOps_rel l (h.frz _)
    . exact frzOps_rel l h
def placesOf (E : Ty) : List (Nat × Nat) → Option (List (Nat × Nat))
  | [] => some []
  | (ft, off) :: l => match E.sz ft, placesOf E l with
    | some z, some r => some ((off, z) :: r)
    | _, _ => none
def St.buildK (E : Ty) (st : St) (t : Nat) (parts : List (Nat × Operand)) (kv : SV → St → Prop) : Prop :=
  match E.d t, E.z t with
  | .st fs, some z => match placesOf E fs with
    | some pl => match fillSV (fun i => pl[i]?) (z.map cSV) (parts.map fun p => (p.1, st.ev p.2)) with
      | some l => match ofCells E t l with
        | some s => kv s st
        | none => False
      | none => False
    | none => False
  | .arr _ e, some z => match E.sz e with
    | some n => match fillSV (fun i => some (i * n, n)) (z.map cSV) (parts.map fun p => (p.1, st.ev p.2)) with
      | some l => match ofCells E t l with
        | some s => kv s st
        | none => False
      | none => False
    | none => False
  | _, _ => False
def St.build (E : Ty) (st : St) (t : Nat) (parts : List (Nat × Operand)) (kv : SV → St → Prop) : Prop :=
  (st.frzOps (parts.map (·.2))).buildK E t parts kv
section
variable {E : Ty} {B : Base} {ρ : Nat → Value} {st : St} {a : Act} {fs : List Act} {w : World} {kv : SV → St → Prop} {C : Cx}
theorem parts_rel (h : StRel B ρ st a fs w) : ∀ l : List (Nat × Operand), PartsRel (cx B ρ st.hp w) (l.map fun p => (p.1, st.ev p.2)) (l.map fun p => (p.1, a.eval p.2))
  | [] => .nil
  | (_, x) :: l => .cons (ev_rel h x) (parts_rel h l)
theorem places_of (hE : E.Ok) : ∀ {l : List Field} {pl : List (Nat × Nat)}, placesOf E (l.map fun f => (f.type, f.offset)) = some pl → l.mapM (fun f => (E.P.info? f.type).map fun i => (f.offset, i.size)) = some pl
  | [], pl, h => by cases h; rfl
  | f :: l, pl, h => by
    simp only [List.map_cons, placesOf] at h
    split at h
    . rename_i z r e1 e2
      cases h
      obtain ⟨inf, h1, h2, _⟩ := hE.sz e1
      simp [List.mapM_cons, h1, h2, places_of hE e2]
    . cases h
theorem buildK_sound (hE : E.Ok) {st1 : St} (h0 : StRel B ρ st1 a fs w) {t : Nat} {parts : Array (Nat × Operand)} {o : Oper} (e : o.op = .build t parts) (hk : st1.buildK E t parts.toList kv) : Yield E B o a fs w kv := by
  unfold St.buildK at hk
  have hd := hE.d t
  have fin : ∀ {cells : Array Value} {l : List SV} {s : SV}, E.P.built t (parts.map fun (i, x) => (i, a.eval x)).toList = some cells → SV.rels (cx B ρ st1.hp w) l cells.toList → ofCells E t l = some s → (E.d t).isAgg = true → kv s st1 → Yield E B o a fs w kv := by
    intro cells l s h1 h2 h3 h4 h5
    obtain ⟨_, _, _, h6⟩ := ofCells_rel hE h3 h2
    rw [h4] at h6
    simp only [if_true] at h6
    refine ⟨_, w, s, st1, ρ, .agg cells, ?_, .inl rfl, h5, h0, by simpa using h6⟩
    unfold execOp
    rw [e]
    simp only [Sem.run_bind, run_build w t _ cells h1, Result.andThen_ok, Sem.run_pure]
  split at hk
  . rename_i fs' z e1 e2
    rw [e1] at hd
    obtain ⟨hd, hfs⟩ := hd
    obtain ⟨inf, zv, h3, h4, h5, _⟩ := hE.z e2
    split at hk
    . rename_i pl e3
      split at hk
      . rename_i l e4
        split at hk
        . rename_i s e5
          rw [← hfs] at e3
          have hp := places_of hE e3
          obtain ⟨cells, h6, h7⟩ := fill_rel (cells := zv.cells) (parts_rel h0 parts.toList) e4 (by rw [h5]; exact cSVs_rel _ z)
          refine fin ?_ h7 e5 (by rw [e1]; rfl) hk
          unfold Program.built
          simp only [h3, hd, h4, hp]
          rw [Array.toList_map]
          have : (fun (x : Nat) => pl.toArray[x]?) = fun i => pl[i]? := by funext i; simp
          rw [this]; exact h6
        . exact hk.elim
      . exact hk.elim
    . exact hk.elim
  . rename_i m e' z e1 e2
    rw [e1] at hd
    have hd : E.P.underlying t = some (.array m e') := hd
    obtain ⟨inf, zv, h3, h4, h5, _⟩ := hE.z e2
    split at hk
    . rename_i n e3
      obtain ⟨ie, h8, h9, _⟩ := hE.sz e3
      split at hk
      . rename_i l e4
        split at hk
        . rename_i s e5
          obtain ⟨cells, h6, h7⟩ := fill_rel (cells := zv.cells) (parts_rel h0 parts.toList) e4 (by rw [h5]; exact cSVs_rel _ z)
          refine fin ?_ h7 e5 (by rw [e1]; rfl) hk
          unfold Program.built
          simp only [h3, hd, h4, h8, h9]
          rw [Array.toList_map]
          exact h6
        . exact hk.elim
      . exact hk.elim
    . exact hk.elim
  . exact hk.elim
theorem build_sound (hE : E.Ok) (h : StRel B ρ st a fs w) {t : Nat} {parts : Array (Nat × Operand)} {o : Oper} (e : o.op = .build t parts) (hk : st.build E t parts.toList kv) : Yield E B o a fs w kv := by
  have h0 := frzOps_rel (parts.toList.map (·.2)) h
  unfold St.build at hk
  exact buildK_sound hE h0 e hk
end
def asElems (k : Kd) : List SV → Option (List k.T)
  | [] => some []
  | s :: l => match s.cells with
    | some c => match unleaf k c, asElems k l with
      | some (x, []), some xs => some (x :: xs)
      | _, _ => none
    | none => none
def St.buildSlice (E : Ty) (st0 : St) (t n : Nat) (parts : List (Nat × Operand)) (kv : SV → St → Prop) : Prop :=
  let st := st0.frzOps (parts.map (·.2))
  match E.d t with
  | .sl e => match E.k e with
    | some k => if parts.map (·.1) = List.range n ∧ n ≤ 65536 ∧ n * k.sz ≤ 65536 then
        match asElems k (parts.map fun p => st.ev p.2) with
        | some xs => kv (.own st.hp.length) { st with hp := st.hp ++ [some (.row e k xs)] }
        | none => False
      else False
    | none => False
  | _ => False
section
variable {E : Ty} {B : Base} {ρ : Nat → Value} {st : St} {a : Act} {fs : List Act} {w : World} {kv : SV → St → Prop} {C : Cx}
theorem asElems_rel {k : Kd} : ∀ {l : List SV} {xs : List k.T} {vs : List Value}, asElems k l = some xs → SV.rels C l vs →
    xs.length = l.length ∧ (∀ v ∈ vs, v.cells.size = k.sz) ∧ ∀ (i : Nat) (x : k.T), xs[i]? = some x → ∃ v, vs[i]? = some v ∧ Rep C.w C.F k x v.cells.toList
  | [], xs, vs, h, hr => by
    have hr : vs = [] := hr
    subst hr
    cases h; exact ⟨rfl, (fun v hv => by cases hv), fun i x hx => by cases hx⟩
  | s :: l, xs, vs, h, hr => by
    simp only [asElems] at h
    split at h
    . rename_i c e1
      split at h
      . rename_i y ys e2 e3
        cases h
        obtain ⟨v, r, rfl, h1, h2⟩ := hr
        obtain ⟨h3, h5, h4⟩ := asElems_rel e3 h2
        have h6 := unleaf_all e2 (cells_rel e1 h1)
        refine ⟨by simp [h3], fun u hu => ?_, fun i x hx => ?_⟩
        . rcases List.mem_cons.1 hu with rfl | hu
          . simpa using h6.length
          . exact h5 u hu
        . cases i with
          | zero => cases hx; exact ⟨v, rfl, h6⟩
          | succ i => exact h4 i x hx
      . cases h
    . cases h
theorem splice_eq (A V D F : List Value) (p m : Nat) (h : (A ++ V).length = p) : (A ++ V ++ D).take p ++ F ++ (A ++ V ++ D).drop (p + m) = A ++ (V ++ F) ++ D.drop m := by
  subst h
  rw [List.take_left, List.drop_append]
  simp
theorem fill_row (z : Nat) : ∀ (vs : List Value) (k : Nat) (cells : Array Value), (∀ v ∈ vs, v.cells.size = z) → (k + vs.length) * z ≤ cells.size →
    ∃ cells', Instr.fill (fun i => some (i * z, z)) cells ((List.range' k vs.length).zip vs) = some cells' ∧ cells'.toList = cells.toList.take (k * z) ++ (vs.map fun v => v.cells.toList).flatten ++ cells.toList.drop ((k + vs.length) * z)
  | [], k, cells, _, _ => ⟨cells, rfl, by simp⟩
  | v :: vs, k, cells, hz, hl => by
    have hv := hz v (by simp)
    simp only [List.length_cons, List.range'_succ, List.zip_cons_cons, Instr.fill]
    have hm : (k + (vs.length + 1)) * z = k * z + z + vs.length * z := by rw [Nat.add_mul, Nat.add_mul, Nat.one_mul]; omega
    simp only [List.length_cons] at hl
    have hm2 : (k + 1 + vs.length) * z = k * z + z + vs.length * z := by rw [Nat.add_mul, Nat.add_mul, Nat.one_mul]
    have hm3 : (k + 1) * z = k * z + z := by rw [Nat.add_mul, Nat.one_mul]
    have h1 : ¬ (v.cells.size ≠ z || k * z + v.cells.size > cells.size) = true := by
      simp only [Bool.or_eq_true, decide_eq_true_eq, not_or]
      omega
    rw [if_neg h1]
    have ht := fold_toList (k * z) v.cells cells (by omega)
    have hsz : (v.cells.zipIdx.foldl (fun cs (c, j) => cs.setIfInBounds (k * z + j) c) cells).toList.length = cells.size := by
      rw [show (v.cells.zipIdx.foldl (fun cs (c, j) => cs.setIfInBounds (k * z + j) c) cells).toList = _ from ht]
      simp; omega
    obtain ⟨cells', h2, h3⟩ := fill_row z vs (k + 1) (v.cells.zipIdx.foldl (fun cs (c, j) => cs.setIfInBounds (k * z + j) c) cells) (fun u hu => hz u (by simp [hu])) (by
      rw [Array.length_toList] at hsz; omega)
    refine ⟨cells', h2, ?_⟩
    rw [h3, show (v.cells.zipIdx.foldl (fun cs (c, j) => cs.setIfInBounds (k * z + j) c) cells).toList = _ from ht, hv, hm, hm2, hm3]
    have hp : (cells.toList.take (k * z) ++ v.cells.toList).length = k * z + z := by
      have : k * z ≤ cells.size := by omega
      simp [hv, Nat.min_eq_left this]
    have := splice_eq (cells.toList.take (k * z)) v.cells.toList (cells.toList.drop (k * z + z)) ((vs.map fun v => v.cells.toList).flatten) (k * z + z) (vs.length * z) hp
    rw [this]
    simp only [List.map_cons, List.flatten_cons, List.drop_drop]
theorem flat_get {z : Nat} : ∀ {vs : List Value} {i : Nat} {v : Value}, (∀ v ∈ vs, v.cells.size = z) → vs[i]? = some v → (((vs.map fun v => v.cells.toList).flatten).drop (i * z)).take z = v.cells.toList
  | u :: vs, 0, v, hz, h => by
    cases h
    have := hz u (by simp)
    simp only [Nat.zero_mul, List.drop_zero, List.map_cons, List.flatten_cons]
    rw [List.take_append_of_le_length (by simp [this]), List.take_of_length_le (by simp [this])]
  | u :: vs, i + 1, v, hz, h => by
    have := hz u (by simp)
    simp only [List.map_cons, List.flatten_cons]
    have hl : u.cells.toList.length = z := by simpa using this
    have e1 : (i + 1) * z = z + i * z := by rw [Nat.add_mul, Nat.one_mul]; omega
    rw [e1, List.drop_append, List.drop_of_length_le (by omega), List.nil_append, hl, show z + i * z - z = i * z by omega]
    exact flat_get (fun v hv => hz v (by simp [hv])) h
theorem flat_len {z : Nat} : ∀ {vs : List Value}, (∀ v ∈ vs, v.cells.size = z) → ((vs.map fun v => v.cells.toList).flatten).length = vs.length * z
  | [], _ => by simp
  | u :: vs, hz => by
    have := hz u (by simp)
    simp only [List.map_cons, List.flatten_cons, List.length_append, flat_len (vs := vs) (fun v hv => hz v (by simp [hv])), List.length_cons, Nat.add_mul, Nat.one_mul, Array.length_toList, this]
    omega
theorem buildSlice_sound (hE : E.Ok) (h : StRel B ρ st a fs w) {t n : Nat} {parts : Array (Nat × Operand)} {o : Oper} (e : o.op = .buildSlice t n parts) (hk : st.buildSlice E t n parts.toList kv) : Yield E B o a fs w kv := by
  have h0 := frzOps_rel (parts.toList.map (·.2)) h
  unfold St.buildSlice at hk
  simp only at hk
  generalize st.frzOps (parts.toList.map (·.2)) = st1 at h0 hk
  have hd := hE.d t
  split at hk
  . rename_i e' e1
    rw [e1] at hd
    have hd : E.P.underlying t = some (.slice e') := hd
    split at hk
    . rename_i k e2
      obtain ⟨_, _, inf, z, hi, hsz, _, hz, hzc⟩ := hE.k e2
      split at hk
      . rename_i hc
        obtain ⟨hr, hn6, hsm⟩ := hc
        split at hk
        . rename_i xs e3
          have hvs : SV.rels (cx B ρ st1.hp w) (parts.toList.map fun p => st1.ev p.2) (parts.toList.map fun p => a.eval p.2) := by
            have := evs_rel h0 (parts.toList.map (·.2))
            rw [List.map_map, List.map_map] at this
            exact this
          obtain ⟨h1, h2, h3⟩ := asElems_rel e3 hvs
          have hn : parts.toList.length = n := by have := congrArg List.length hr; simpa using this
          have hxn : xs.length = n := by rw [h1]; simpa using hn
          have hzip : (parts.map fun (i, x) => (i, a.eval x)).toList = (List.range' 0 (parts.toList.map fun p => a.eval p.2).length).zip (parts.toList.map fun p => a.eval p.2) := by
            rw [Array.toList_map, List.length_map, hn, ← List.range_eq_range', ← hr, List.zip_map']
          have hzs : z.cells.size = k.sz := by
            have : z.cells.toList.length = k.zero.length := by rw [hzc]
            have hl : ∀ k : Kd, k.zero.length = k.sz := by
              exact fun k => zero_len k
            rw [hl] at this; simpa using this
          obtain ⟨cells', h4, h5⟩ := fill_row k.sz (parts.toList.map fun p => a.eval p.2) 0 ((Array.range (n * k.sz)).map ((if n * k.sz = 0 then #[] else z.cells)[· % (if n * k.sz = 0 then #[] else z.cells).size]!)) h2 (by simp [hn])
          rw [← hzip] at h4
          have h6 : cells'.toList = ((parts.toList.map fun p => a.eval p.2).map fun v => v.cells.toList).flatten := by
            rw [h5]
            simp [hn]
          have T : Turn B ρ (upd ρ st1.hp.length (.slice (some ⟨w.heap.size, 0, none⟩) n n)) st1.hp (st1.hp ++ [some (.row e' k xs)]) w (w.alloc (.cells cells' e')) st1.hp.length none :=
            Turn.new (World.grownBy_alloc w _ none) (fun b hb => by cases hb; exact Nat.le_refl _)
          have hsz2 : cells'.size = n * k.sz := by
            have := congrArg List.length h6
            rw [flat_len h2] at this
            simpa [hn] using this
          refine ⟨_, w.alloc (.cells cells' e'), _, _, _, .slice (some ⟨w.heap.size, 0, none⟩) n n, ?_, .inl rfl, hk, h0.turn T (fun ob hob => ?_), ⟨by simp, (upd_same _ _ _).symm, .inl ⟨_, _, _, rfl⟩⟩⟩
          . unfold execOp
            rw [e]
            have hbig : ¬ (n * inf.size > 2 ^ 24) := by rw [hsz]; omega
            simp only [Instr.buildSlice, Sem.run_bind, run_underlying hd, Result.andThen_ok, run_sizeOf hi, hbig, if_false]
            simp only [hsz]
            have hmap : (parts.map fun (x : Nat × Operand) => (x.fst, a.eval x.snd)) = parts.map fun (i, x) => (i, a.eval x) := rfl
            by_cases h00 : n * k.sz = 0
            . simp only [if_pos h00] at h4
              rw [if_pos h00]
              simp only [Sem.run_bind, Sem.run_pure, Result.andThen_ok, hmap, h4, newRow, run_newObj_alloc]
            . simp only [if_neg h00] at h4
              rw [if_neg h00]
              simp only [zeroValue, typeInfo, run_program, hi, hz, Sem.run_bind, Sem.run_pure, Result.andThen_ok, hmap, h4, newRow, run_newObj_alloc]
          . rw [getElem?_snoc] at hob
            cases hob
            rw [upd_same]
            refine ⟨cells'.toList, ?_, fun i x hx => ?_⟩
            . rw [hxn]
              exact .inl <| World.ownsRow_lit w cells' n (Nat.zero_le _) (by simp only [maxLen]; omega) hsz2
            . obtain ⟨v, h7, h8⟩ := h3 i x hx
              rw [h6, flat_get h2 h7]
              exact h8.step T.le.size T.le.same T.le.F
        . exact hk.elim
      . exact hk.elim
    . exact hk.elim
  . exact hk.elim
end
end Go.Vc
end
