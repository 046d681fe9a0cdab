/- All operations that change nothing, as one function. -/
import Derived.Test.YtkdffofjnjamlaaDoorZVcRead
set_option linter.unusedVariables false
set_option linter.unusedSimpArgs false
namespace Go.Vc
open Go.RowKit

def St.g (st : St) (x : Operand) : List Prop × SV := (st.ev x).ug

def TD.known : TD → Bool
  | .oth => false
  | _ => true

theorem TD.known_some {P : Program} {t : Nat} {d : TD} (h : d.ok P t) (hk : d.known = true) : ∃ u, P.underlying t = some u := by
  cases d <;> simp only [TD.known, Bool.false_eq_true] at hk <;> try exact ⟨_, h⟩
  case st fs => exact ⟨_, h.1⟩
  case fn => obtain ⟨p, r, v, h⟩ := h; exact ⟨_, h⟩
  case ifc => obtain ⟨m, h⟩ := h; exact ⟨_, h⟩

def isU8 : TD → Bool
  | .int .u8 => true
  | _ => false

def utf8 (n : Int) : List Int := bs (Utf8.encode n)

def asBytes : Option ((k : Kd) × List k.T) → Option (List Int)
  | some ⟨.int .u8, xs⟩ => some xs
  | _ => none

def St.conv (E : Ty) (st : St) (src dst : Nat) (s : SV) : PR :=
  if (E.d src).known then
    match E.d dst, s with
    | .int k', .dat (.int _) n => some ([], .dat (.int k') (k'.wrap n))
    | .str, .dat .str l => some ([], .dat .str l)
    | .str, .dat (.int _) n => some ([(utf8 n).length ≤ 4], .dat .str (utf8 n))
    | .str, s => match E.d src with
      | .sl e => if isU8 (E.d e) then
          match asBytes (st.list s) with
          | some xs => some ([], .dat .str xs)
          | none => match s with
            | .cst c => if nilSlice c then some ([], .dat .str []) else none
            | _ => none
        else none
      | _ => none
    | _, _ => none
  else none

def St.len (E : Ty) (st : St) (t : Nat) (s : SV) : PR :=
  match E.d t, s with
  | .str, .dat .str l => some ([], .dat (.int .i64) (l.length : Int))
  | .sl _, .sub n _ _ len => match st.row n with | some _ => some ([], .dat (.int .i64) (len : Int)) | none => none
  | .sl _, .cst c => if nilSlice c then some ([], .dat (.int .i64) 0) else none
  | .sl _, s => match st.list s with
    | some ⟨_, xs⟩ => some ([], .dat (.int .i64) (xs.length : Int))
    | none => none
  | _, _ => none

theorem isU8_eq {d : TD} (h : isU8 d = true) : d = .int .u8 := by
  unfold isU8 at h
  split at h
  · rfl
  · cases h

theorem asBytes_eq {o : Option ((k : Kd) × List k.T)} {xs : List Int} (h : asBytes o = some xs) : o = some ⟨.int .u8, xs⟩ := by
  unfold asBytes at h
  split at h
  · cases h; rfl
  · cases h

theorem bs_strOfNums (xs : List Int) (h : ∀ x ∈ xs, 0 ≤ x ∧ x ≤ 255) : bs (strOfNums xs) = xs := by
  unfold bs
  rw [strOfNums_data, List.map_map]
  conv => rhs; rw [← List.map_id xs]
  refine List.map_congr_left fun x hx => ?_
  have := h x hx
  simp [UInt8.toNat_ofNat']
  omega

section
variable {E : Ty} {B : Base} {ρ : Nat → Value} {st : St} {a : Act} {fs : List Act} {w : World} {obs : List Prop} {s : SV} {v : Value}

theorem g_rel (h : StRel B ρ st a fs w) (x : Operand) (ho : ∀ p ∈ (st.g x).1, p) : (st.g x).2.rel (cx B ρ st.hp w) (a.eval x) := ug_rel (ev_rel h x) ho

theorem conv_bytes {P : Program} {src dst e : Nat} (hs : P.underlying src = some (.slice e)) (he : P.underlying e = some (.int .u8)) (hd : P.underlying dst = some .string)
    {A : Option Addr} {c : Nat} {xs : List Int} (F : Nat → Prop) (hx : xs ≠ [] → ∃ ad, A = some ad ∧ ad.block < w.heap.size ∧ Els w (Rep w F (.int .u8)) 1 ad xs) (hl : xs.length ≤ 9223372036854775807) :
    ∃ v, (convert src dst (.slice A xs.length c)).run P w = .ok v w ∧ VRep w F .str xs v := by
  by_cases hne : xs = []
  · subst hne
    refine ⟨_, ?_, VRep_str.2 ⟨⟨#[]⟩, rfl, rfl, by simp [ByteArray.size]⟩⟩
    cases A with
    | none => exact run_convert_bytes_nil w src e hs he 0 c dst hd
    | some ad =>
      simp only [convert, Sem.run_bind, run_underlying hs, run_underlying hd, run_underlying he, Result.andThen_ok]
      simp [Conv.bytesToString, loadCells, loadCellsFrom]
      rfl
  · obtain ⟨ad, rfl, hlt, hels⟩ := hx hne
    have hcell : ∀ i, i < xs.length → w.cell? (ad.add i) = some (.int .u8 (xs.getD i 0)) ∧ InR .u8 (xs.getD i 0) := by
      intro i hi
      obtain ⟨ecs, ⟨rfl, hr⟩, hc⟩ := hels i xs[i] (List.getElem?_eq_getElem hi)
      have := hc 0 _ rfl
      simp only [Nat.mul_one, Nat.add_zero] at this
      rw [List.getD_eq_getElem?_getD, List.getElem?_eq_getElem hi]
      exact ⟨this, hr⟩
    have hpos : 0 < xs.length := List.length_pos_iff.2 hne
    obtain ⟨b, o, sp⟩ := ad
    have hsp : sp = none := by
      have := (hcell 0 hpos).1
      simp only [Addr.add, if_true] at this
      cases sp with
      | none => rfl
      | some z => simp [World.cell?] at this; split at this <;> simp_all
    subst hsp
    refine ⟨_, run_convert_bytes_arg w src e hs he b o xs.length c xs rfl (fun i hi => ?_) dst hd, VRep_str.2 ⟨_, rfl, bs_strOfNums xs (fun x hx => ?_), by rw [strOfNums_size]; exact hl⟩⟩
    · have := (hcell i hi).1
      rwa [addr_add] at this
    · obtain ⟨i, hi, rfl⟩ := List.mem_iff_getElem.1 hx
      have := (hcell i hi).2
      rw [List.getD_eq_getElem?_getD, List.getElem?_eq_getElem hi] at this
      exact this

theorem conv_sound (hE : E.Ok) (h : StRel B ρ st a fs w) {src dst : Nat} {s' : SV} (hop : st.conv E src dst s = some (obs, s')) (ho : ∀ p ∈ obs, p) (hs : s.rel (cx B ρ st.hp w) v) :
    ∃ v', (convert src dst v).run E.P w = .ok v' w ∧ s'.rel (cx B ρ st.hp w) v' := by
  unfold St.conv at hop
  split at hop
  · rename_i hk
    obtain ⟨u, hu⟩ := TD.known_some (hE.d src) hk
    have hd := hE.d dst
    split at hop
    · rename_i k' k n e1
      rw [e1] at hd
      cases hop
      obtain ⟨rfl, _⟩ := VRep_int.1 hs
      exact ⟨_, by simp [convert, run_underlying hu, run_underlying (show E.P.underlying dst = some (.int k') from hd), Conv.intToInt], VRep_int.2 ⟨rfl, wrap_InR _ _⟩⟩
    · rename_i l e1
      rw [e1] at hd
      cases hop
      obtain ⟨s, rfl, h2⟩ := VRep_str.1 hs
      exact ⟨_, by simp [convert, run_underlying hu, run_underlying (show E.P.underlying dst = some .string from hd)], VRep_str.2 ⟨s, rfl, h2⟩⟩
    · rename_i k n e1
      rw [e1] at hd
      cases hop
      obtain ⟨rfl, _⟩ := VRep_int.1 hs
      refine ⟨_, by simp [convert, run_underlying hu, run_underlying (show E.P.underlying dst = some .string from hd), Conv.intToString], VRep_str.2 ⟨_, rfl, rfl, ?_⟩⟩
      have : (utf8 n).length ≤ 4 := ho _ (by simp)
      rw [← bs_length]
      unfold utf8 at this
      omega
    · rename_i e1 _ _
      rw [e1] at hd
      split at hop
      · rename_i e e2
        have hsrc := hE.d src
        rw [e2] at hsrc
        split at hop
        · rename_i h8
          have he := hE.d e
          rw [isU8_eq h8] at he
          split at hop
          · rename_i xs hx
            cases hop
            obtain ⟨A, c, rfl, h1, h2, h3⟩ := list_rel h hs (asBytes_eq hx)
            exact conv_bytes hsrc he hd _ h3 (by omega)
          · split at hop
            · split at hop
              · rename_i hn
                cases hop
                rw [show v = _ from hs, nilSlice_eq hn]
                exact ⟨_, run_convert_bytes_nil w src e hsrc he 0 0 dst hd, VRep_str.2 ⟨⟨#[]⟩, rfl, rfl, by simp [ByteArray.size]⟩⟩
              · cases hop
            · cases hop
        · cases hop
      · cases hop
    · cases hop
  · cases hop

theorem goInt_rel {C : Cx} {n : Nat} (h : n ≤ 9223372036854775807) : (SV.dat (.int .i64) (n : Int)).rel C (goInt n) :=
  VRep_int.2 ⟨rfl, by constructor <;> simp [IntKind.min, IntKind.max, IntKind.signed, IntKind.bits] <;> omega⟩

theorem len_sound (hE : E.Ok) (h : StRel B ρ st a fs w) {t ty : Nat} {s' : SV} (hop : st.len E t s = some (obs, s')) (hs : s.rel (cx B ρ st.hp w) v) :
    ∃ v', (Builtin.len_ #[t] ty #[v]).run E.P w = .ok v' w ∧ s'.rel (cx B ρ st.hp w) v' := by
  have hd := hE.d t
  unfold St.len at hop
  split at hop
  · rename_i l e1
    rw [e1] at hd
    cases hop
    obtain ⟨s, rfl, h2, h3⟩ := VRep_str.1 hs
    refine ⟨_, run_len_string (P := E.P) w t ty s hd, ?_⟩
    rw [← h2, bs_length]
    exact goInt_rel h3
  · rename_i e n k off len e1
    rw [e1] at hd
    split at hop
    · rename_i row hrow
      cases hop
      obtain ⟨k', xs⟩ := row
      obtain ⟨e', he⟩ := St.row_some hrow
      obtain ⟨A, c, e3, h1, h2, _⟩ := row_rel (h.h.obj n _ he)
      obtain ⟨_, A0, m, cap, A', cc, e4, rfl, h5, _⟩ := hs
      simp only at e4
      rw [e3] at e4
      simp only [Value.slice.injEq] at e4
      obtain ⟨_, rfl, _⟩ := e4
      exact ⟨_, by simp [Builtin.len_, run_underlying (show E.P.underlying t = some (.slice e) from hd)], goInt_rel (by omega)⟩
    · cases hop
  · rename_i e c e1
    rw [e1] at hd
    split at hop
    · rename_i hn
      cases hop
      have hs : v = c := hs
      rw [hs, nilSlice_eq hn]
      exact ⟨_, by simp [Builtin.len_, run_underlying (show E.P.underlying t = some (.slice e) from hd)], goInt_rel (n := 0) (by omega)⟩
    · cases hop
  · rename_i e e1 _ _
    rw [e1] at hd
    split at hop
    · rename_i k xs hx
      cases hop
      obtain ⟨A, c, rfl, h1, h2, h3⟩ := list_rel h hs hx
      exact ⟨_, by simp [Builtin.len_, run_underlying (show E.P.underlying t = some (.slice e) from hd)], goInt_rel (by omega)⟩
    · cases hop
  · cases hop

/-! ### Indexes and addresses -/
end

def St.index (E : Ty) (t : Nat) (s : SV) (j : Int) : PR :=
  match E.d t, s with
  | .str, .dat .str l => some ([0 ≤ j ∧ j < l.length], .dat (.int .u8) (l.getD j.toNat 0))
  | _, _ => none

def St.indexAddr (E : Ty) (st : St) (t : Nat) (s : SV) (j : Int) : PR :=
  match E.d t, s with
  | .sl e, .dat (.sl k) xs => if E.k e = some k then some ([0 ≤ j ∧ j < xs.length], .adr k (xs.getD j.toNat k.dft)) else none
  | .sl e, .own n => match st.row n with
    | some ⟨k, xs⟩ => if E.k e = some k then some ([0 ≤ j ∧ j < xs.length], .oel n k j.toNat 0) else none
    | none => none
  | .sl e, .sub n k off len => match st.row n with
    | some _ => if E.k e = some k then some ([0 ≤ j ∧ j < len], .oel n k (off + j.toNat) 0) else none
    | none => none
  | .arr m e, .rptr n => match st.row n with
    | some ⟨k, xs⟩ => if E.k e = some k then some ([0 ≤ j ∧ j < m ∧ j < xs.length], .oel n k j.toNat 0) else none
    | none => none
  | .arr m e, .aar k xs => if E.k e = some k then some ([0 ≤ j ∧ j < m ∧ j < xs.length], .adr k (xs.getD j.toNat k.dft)) else none
  | _, _ => none

/-- A value out of its cells: as data, or as it stands. -/
def ofCells1 (agg : Bool) (z : Nat) (l : List SV) : Option SV :=
  match agg, l with
  | true, l => if l.length = z then some (.agg l) else none
  | false, [s] => if z = 1 then some s else none
  | false, _ => none
def nilOnly : List SV → Bool
  | [.cst c] => nilSlice c
  | _ => false
def ofCells (E : Ty) (t : Nat) (l : List SV) : Option SV :=
  match (E.d t).known, E.k t, E.sz t with
  | true, some k, some z => if nilOnly l && !(E.d t).isAgg then ofCells1 (E.d t).isAgg z l else match unleaf k l with
    | some (x, []) => some (.dat k x)
    | _ => ofCells1 (E.d t).isAgg z l
  | true, none, some z => ofCells1 (E.d t).isAgg z l
  | _, _, _ => none

def St.load (E : Ty) (st : St) (t : Nat) (s : SV) : PR :=
  match s with
  | .adr k x => if E.k t = some k ∧ (E.d t).known = true then some ([], .dat k x) else none
  | .oel n k i off => match st.row n, E.k t with
    | some ⟨k0, xs⟩, some kt => if h : k0 = k then
        match unleaf kt (((leaves k (castT h (xs.getD i k0.dft))).drop off).take kt.sz) with
        | some (y, []) => if (E.d t).known then some ([], .dat kt y) else none
        | _ => none
      else none
    | _, _ => none
  | .ptr n o => match st.hp[n]?, E.sz t with
    | some (some (.var _ cs)), some z => match ofCells E t ((cs.drop o).take z) with
      | some s => some ([], s)
      | none => none
    | _, _ => none
  | _ => none

section
variable {E : Ty} {B : Base} {ρ : Nat → Value} {st : St} {a : Act} {fs : List Act} {w : World} {obs : List Prop} {s : SV} {v : Value}

theorem bs_getD (s : ByteArray) (i : Nat) (h : i < s.size) : (bs s).getD i 0 = ((s[i]'h).toNat : Int) := by
  have : i < s.data.toList.length := by simpa using h
  simp [bs, List.getD_eq_getElem?_getD]
  rw [Array.getElem?_eq_getElem (by simpa using h)]
  rfl

theorem index_sound (hE : E.Ok) {t : Nat} {s' : SV} {k : IntKind} {j : Int} {C : Cx} (hop : St.index E t s j = some (obs, s')) (ho : ∀ p ∈ obs, p) (hs : s.rel C v) :
    ∃ v', (Instr.index t v (.int k j)).run E.P w = .ok v' w ∧ s'.rel C v' := by
  have hd := hE.d t
  unfold St.index at hop
  split at hop
  · rename_i l e1
    rw [e1] at hd
    cases hop
    obtain ⟨s, rfl, rfl, h3⟩ := VRep_str.1 hs
    have hj : 0 ≤ j ∧ j < ((bs s).length : Int) := ho _ (by simp)
    rw [bs_length] at hj
    have hlt : j.toNat < s.size := by omega
    refine ⟨_, by rw [run_index_string (P := E.P) w t s k j hd, dif_pos hj], ?_⟩
    rw [bs_getD s _ hlt]
    refine VRep_int.2 ⟨rfl, ?_⟩
    have := (s[j.toNat]'hlt).toNat_lt
    constructor <;> simp [IntKind.min, IntKind.max, IntKind.signed, IntKind.bits] <;> omega
  · cases hop

theorem run_sizeOf {P : Program} {t : Nat} {inf : TypeInfo} (h : P.info? t = some inf) : (sizeOf t).run P w = .ok inf.size w := by
  simp [sizeOf, typeInfo, h]

theorem indexAddr_sound (hE : E.Ok) (h : StRel B ρ st a fs w) {t : Nat} {s' : SV} {k : IntKind} {j : Int} (hop : st.indexAddr E t s j = some (obs, s')) (ho : ∀ p ∈ obs, p) (hs : s.rel (cx B ρ st.hp w) v) :
    ∃ v', (Instr.indexAt t v (.int k j)).run E.P w = .ok v' w ∧ s'.rel (cx B ρ st.hp w) v' := by
  have hd := hE.d t
  unfold St.indexAddr at hop
  split at hop
  · rename_i e kk xs e1
    rw [e1] at hd
    have hd : E.P.underlying t = some (.slice e) := hd
    split at hop
    · rename_i hk
      cases hop
      obtain ⟨_, _, inf, z, hi, hsz, _⟩ := hE.k hk
      have hj : 0 ≤ j ∧ j < (xs.length : Int) := ho _ (by simp)
      obtain ⟨A, c, rfl, h1, h2, h3⟩ := VRep_sl.1 hs
      obtain ⟨ad, rfl, h4, h5, h6⟩ := h3 (fun e => by rw [e] at hj; simp at hj; omega)
      have hlt : j.toNat < xs.length := by omega
      obtain ⟨ecs, h7, h8⟩ := h6 j.toNat xs[j.toNat] (List.getElem?_eq_getElem hlt)
      refine ⟨_, by simp [Instr.indexAt, asIntOf, run_underlying hd, hj, run_sizeOf hi]; rfl, _, ecs, rfl, ?_, by rw [add_block]; exact h4, by rw [add_block]; exact h5, fun i u hu => ?_⟩
      · rw [List.getD_eq_getElem?_getD, List.getElem?_eq_getElem hlt]; exact h7
      · rw [hsz, addr_add_add]; exact h8 i u hu
    · cases hop
  · rename_i e n e1
    rw [e1] at hd
    have hd : E.P.underlying t = some (.slice e) := hd
    split at hop
    · rename_i kk xs hrow
      split at hop
      · rename_i hk
        cases hop
        obtain ⟨_, _, inf, z, hi, hsz, _⟩ := hE.k hk
        have hj : 0 ≤ j ∧ j < (xs.length : Int) := ho _ (by simp)
        obtain ⟨e', he⟩ := St.row_some hrow
        obtain ⟨A, c, e3, h1, h2, h3, h4⟩ := row_rel (h.h.obj n _ he)
        obtain ⟨hn, rfl, _⟩ := hs
        cases A with
        | none => have := (h3 rfl).2; subst this; simp at hj; omega
        | some ad =>
          obtain ⟨ho1, ho2, h5, _⟩ := h4 ad rfl
          obtain ⟨b, o, sp⟩ := ad
          simp only at ho1 ho2
          subst ho1 ho2
          refine ⟨_, by rw [show (cx B ρ st.hp w).ρ n = ρ n from rfl, e3]; simp [Instr.indexAt, asIntOf, run_underlying hd, hj, run_sizeOf hi]; rfl, hn, b, xs.length, c, e3, by omega, ?_⟩
          rw [hsz]; rfl
      · cases hop
    · cases hop
  · rename_i e n kk off len e1
    rw [e1] at hd
    have hd : E.P.underlying t = some (.slice e) := hd
    split at hop
    · rename_i row hrow
      split at hop
      · rename_i hk
        cases hop
        obtain ⟨k', xs⟩ := row
        obtain ⟨_, _, inf, z, hi, hsz, _⟩ := hE.k hk
        have hj : 0 ≤ j ∧ j < (len : Int) := ho _ (by simp)
        obtain ⟨e', he⟩ := St.row_some hrow
        obtain ⟨A, c, e3, h1, h2, h3, h4⟩ := row_rel (h.h.obj n _ he)
        obtain ⟨hn, A0, m, cap, A', cc, e4, rfl, h5, hc1, hc2, h6⟩ := hs
        simp only at e4
        have e5 := e4
        rw [e3] at e4
        simp only [Value.slice.injEq] at e4
        obtain ⟨rfl, rfl, rfl⟩ := e4
        cases A with
        | none => have := (h3 rfl).2; subst this; simp at h5; omega
        | some ad =>
          obtain ⟨ho1, ho2, h7, _⟩ := h4 ad rfl
          obtain ⟨b, o, sp⟩ := ad
          simp only at ho1 ho2
          subst ho1 ho2
          rcases h6 with rfl | h6
          · refine ⟨_, by simp [Instr.indexAt, asIntOf, run_underlying hd, hj, run_sizeOf hi]; rfl, hn, b, xs.length, c, e5, by omega, ?_⟩
            rw [hsz, addr_add_add, Nat.add_mul]; rfl
          · omega
      · cases hop
    · cases hop
  · rename_i m e n e1
    rw [e1] at hd
    have hd : E.P.underlying t = some (.array m e) := hd
    split at hop
    · rename_i kk xs hrow
      split at hop
      · rename_i hk
        cases hop
        obtain ⟨_, _, inf, z, hi, hsz, _⟩ := hE.k hk
        have hj : 0 ≤ j ∧ j < (m : Int) ∧ j < (xs.length : Int) := ho _ (by simp)
        obtain ⟨e', he⟩ := St.row_some hrow
        obtain ⟨A, c, e3, h1, h2, h3, h4⟩ := row_rel (h.h.obj n _ he)
        obtain ⟨hn, g, m', cap, e4, rfl, _⟩ := hs
        simp only at e4
        have e5 := e4
        rw [e3] at e4
        simp only [Value.slice.injEq] at e4
        obtain ⟨rfl, rfl, rfl⟩ := e4
        refine ⟨_, by simp [Instr.indexAt, Instr.sureAddr, asIntOf, run_underlying hd, hj.1, hj.2.1, run_sizeOf hi]; rfl, hn, g, xs.length, c, e5, by omega, ?_⟩
        rw [hsz]; rfl
      · cases hop
    · cases hop
  · rename_i m e kk xs e1
    rw [e1] at hd
    have hd : E.P.underlying t = some (.array m e) := hd
    split at hop
    · rename_i hk
      cases hop
      obtain ⟨_, _, inf, z, hi, hsz, _⟩ := hE.k hk
      have hj : 0 ≤ j ∧ j < (m : Int) ∧ j < (xs.length : Int) := ho _ (by simp)
      obtain ⟨ad, rfl, h4, h5, h6⟩ := hs
      have hlt : j.toNat < xs.length := by omega
      obtain ⟨ecs, h7, h8⟩ := h6 j.toNat xs[j.toNat] (List.getElem?_eq_getElem hlt)
      refine ⟨_, by simp [Instr.indexAt, Instr.sureAddr, asIntOf, run_underlying hd, hj.1, hj.2.1, run_sizeOf hi]; rfl, _, ecs, rfl, ?_, by rw [add_block]; exact h4, by rw [add_block]; exact h5, fun i u hu => ?_⟩
      · rw [List.getD_eq_getElem?_getD, List.getElem?_eq_getElem hlt]; exact h7
      · rw [hsz, addr_add_add]; exact h8 i u hu
    · cases hop
  · cases hop

theorem run_isAgg {P : Program} {t : Nat} {d : TD} (h : d.ok P t) (hk : d.known = true) : (isAgg t).run P w = .ok d.isAgg w := by
  cases d <;> simp only [TD.known, Bool.false_eq_true] at hk
  case st fs => simp [isAgg, run_underlying h.1, TD.isAgg]
  case fn => obtain ⟨p, r, v, h⟩ := h; simp [isAgg, run_underlying h, TD.isAgg]
  case ifc => obtain ⟨m, h⟩ := h; simp [isAgg, run_underlying h, TD.isAgg]
  all_goals (have h : P.underlying t = _ := h; simp [isAgg, run_underlying h, TD.isAgg])

/-- A value is read out of cells that stand in memory. -/
theorem run_loadVar {P : Program} {t : Nat} {d : TD} (h : d.ok P t) (hk : d.known = true) {inf : TypeInfo} (hi : P.info? t = some inf) {ad : Addr} {cs : List Value}
    (hl : cs.length = inf.size) (h1 : d.isAgg = false → cs.length = 1) (hc : ∀ (j : Nat) (u : Value), cs[j]? = some u → w.cell? (ad.add j) = some u) :
    (loadVar t ad).run P w = .ok (if d.isAgg then .agg cs.toArray else cs.headD undef) w := by
  unfold loadVar
  simp only [Sem.run_bind, run_isAgg h hk, Result.andThen_ok]
  cases hb : d.isAgg with
  | true =>
    simp only [if_true, Sem.run_bind, run_sizeOf hi, Result.andThen_ok, ← hl, run_loadCells_list w ad cs hc]
    rfl
  | false =>
    have hl1 := h1 hb
    match cs, hl1 with
    | [c], _ =>
      have := hc 0 c rfl
      simp only [Addr.add, if_true] at this
      simp [load, Sem.run, this]

theorem unleaf_all {C : Cx} {k : Kd} {l : List SV} {vs : List Value} {x : k.T} (h : unleaf k l = some (x, [])) (hr : SV.rels C l vs) : Rep C.w C.F k x vs := by
  obtain ⟨v1, v2, rfl, h1, h2⟩ := unleaf_rel h hr
  have h2 : v2 = [] := h2
  subst h2
  simpa using h1

theorem VRep_of_cells {C : Cx} {k : Kd} {x : k.T} {cs : List Value} (h : Rep C.w C.F k x cs) : VRep C.w C.F k x (if k.isAgg then .agg cs.toArray else cs.headD undef) := by
  refine ⟨cs, h, ?_⟩
  split
  · rfl
  · rename_i hk
    have hl := h.length
    have : k.sz = 1 := by cases k <;> simp_all [Kd.sz, Kd.isAgg]
    rw [this] at hl
    match cs, hl with
    | [c], _ => rfl

theorem sz_one {k : Kd} (h : k.isAgg = false) : k.sz = 1 := by
  cases k <;> first | rfl | cases h

theorem ofCells1_rel {agg : Bool} {z : Nat} {l : List SV} {s' : SV} {C : Cx} (hop : ofCells1 agg z l = some s') {vs : List Value} (hr : SV.rels C l vs) :
    vs.length = z ∧ (agg = false → vs.length = 1) ∧ s'.rel C (if agg then .agg vs.toArray else vs.headD undef) := by
  have hlen := rels_length hr
  unfold ofCells1 at hop
  split at hop
  · split at hop
    · rename_i e5
      cases hop
      exact ⟨by omega, (fun h => by cases h), vs, rfl, hr⟩
    · cases hop
  · split at hop
    · rename_i e4
      cases hop
      obtain ⟨v, r, rfl, h1, h2⟩ := hr
      have h2 : r = [] := h2
      subst h2
      exact ⟨e4.symm, (fun _ => rfl), h1⟩
    · cases hop
  · cases hop

theorem ofCells_rel (hE : E.Ok) {t : Nat} {l : List SV} {s' : SV} {C : Cx} (hop : ofCells E t l = some s') {vs : List Value} (hr : SV.rels C l vs) :
    (E.d t).known = true ∧ (∃ z, E.sz t = some z ∧ vs.length = z) ∧ ((E.d t).isAgg = false → vs.length = 1) ∧ s'.rel C (if (E.d t).isAgg then .agg vs.toArray else vs.headD undef) := by
  unfold ofCells at hop
  split at hop
  · rename_i k z e1 e2 e3
    obtain ⟨hagg, hsz, _⟩ := hE.k e2
    refine ⟨e1, ?_⟩
    by_cases hno : (nilOnly l && !(E.d t).isAgg) = true
    · rw [if_pos hno] at hop
      obtain ⟨h1, h2⟩ := ofCells1_rel hop hr
      exact ⟨⟨z, e3, h1⟩, h2⟩
    rw [if_neg hno] at hop
    split at hop
    · rename_i x e4
      cases hop
      have h1 := unleaf_all e4 hr
      refine ⟨⟨_, hsz, h1.length⟩, fun hk => ?_, ?_⟩
      · rw [h1.length]; exact sz_one (by rw [hagg]; exact hk)
      · rw [← hagg]; exact VRep_of_cells h1
    · obtain ⟨h1, h2⟩ := ofCells1_rel hop hr
      exact ⟨⟨z, e3, h1⟩, h2⟩
  · rename_i z e1 e2 e3
    obtain ⟨h1, h2⟩ := ofCells1_rel hop hr
    exact ⟨e1, ⟨z, e3, h1⟩, h2⟩
  · cases hop

theorem load_sound (hE : E.Ok) (h : StRel B ρ st a fs w) {t : Nat} {s' : SV} (hop : st.load E t s = some (obs, s')) (hs : s.rel (cx B ρ st.hp w) v) :
    ∃ v', (Instr.loadAt t v).run E.P w = .ok v' w ∧ s'.rel (cx B ρ st.hp w) v' := by
  have hd := hE.d t
  unfold St.load at hop
  split at hop
  · rename_i k x
    split at hop
    · rename_i hk
      cases hop
      obtain ⟨hagg, _, inf, z, hi, hsz, _⟩ := hE.k hk.1
      obtain ⟨ad, cs, rfl, h1, h2, h3, h4⟩ := hs
      refine ⟨_, by simp only [Instr.loadAt, Instr.sureAddr, Sem.run_bind, Sem.run_pure, Result.andThen_ok]; exact run_loadVar hd hk.2 hi (h1.length.trans hsz.symm) (fun hb => by rw [h1.length]; exact sz_one (by rw [hagg]; exact hb)) h4, ?_⟩
      rw [← hagg]
      exact VRep_of_cells h1
    · cases hop
  · rename_i n k i off
    split at hop
    · rename_i k0 xs kt hrow hkt
      split at hop
      · rename_i hk
        subst hk
        split at hop
        · rename_i y hy
          split at hop
          · rename_i hkn
            cases hop
            obtain ⟨hagg, _, inf, z, hi, hsz, _⟩ := hE.k hkt
            obtain ⟨e', he⟩ := St.row_some hrow
            obtain ⟨A, c, e3, h1, h2, h3, h4⟩ := row_rel (h.h.obj n _ he)
            obtain ⟨hn, g, m', cap, e4, hlt, rfl⟩ := hs
            simp only at e4
            rw [e3] at e4
            simp only [Value.slice.injEq] at e4
            obtain ⟨rfl, rfl, rfl⟩ := e4
            obtain ⟨_, _, _, h6, _⟩ := h4 _ rfl
            obtain ⟨ecs, h7, h8⟩ := h6 i xs[i] (List.getElem?_eq_getElem hlt)
            rw [castT_rfl, List.getD_eq_getElem?_getD, List.getElem?_eq_getElem hlt] at hy
            have hy2 := unleaf_all hy (rels_take kt.sz (rels_drop off (leaves_rel (C := cx B ρ st.hp w) h7)))
            refine ⟨_, by
              simp only [Instr.loadAt, Instr.sureAddr, Sem.run_bind, Sem.run_pure, Result.andThen_ok]
              exact run_loadVar hd hkn hi (hy2.length.trans hsz.symm) (fun hb => by rw [hy2.length]; exact sz_one (by rw [hagg]; exact hb)) (fun j u hu => by
                rw [List.getElem?_take] at hu
                split at hu
                · rw [List.getElem?_drop] at hu
                  have := h8 (off + j) u hu
                  rw [addr_add_add, Nat.add_assoc]
                  exact this
                · cases hu), ?_⟩
            rw [← hagg]
            exact VRep_of_cells (C := cx B ρ st.hp w) hy2
          · cases hop
        · cases hop
      · cases hop
    · cases hop
  · rename_i n o
    split at hop
    · rename_i tt cs z hob hz
      split at hop
      · rename_i s0 e1
        cases hop
        obtain ⟨hn, b, e2, rfl⟩ := hs
        obtain ⟨b', vs, e3, h1, h2⟩ := h.h.obj n _ hob
        simp only at e2
        rw [e3] at e2
        simp only [Value.pointer.injEq, Option.some.injEq, Addr.mk.injEq, and_true] at e2
        subst e2
        obtain ⟨h3, ⟨z', h4, h5⟩, h6, h7⟩ := ofCells_rel hE e1 (rels_take z (rels_drop o h2))
        obtain ⟨inf, hi, hsz, _⟩ := hE.sz h4
        refine ⟨_, by
          simp only [Instr.loadAt, Instr.sureAddr, Sem.run_bind, Sem.run_pure, Result.andThen_ok]
          exact run_loadVar hd h3 hi (h5.trans hsz.symm) h6 (fun j u hu => by
            rw [List.getElem?_take] at hu
            split at hu
            · rw [List.getElem?_drop] at hu
              rw [addr_add]
              simp only [World.cell?, h1]
              simpa using hu
            · cases hu), h7⟩
      · cases hop
    · cases hop
  · cases hop
end
end Go.Vc
