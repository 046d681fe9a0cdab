/- From a law's contract to what its row says. -/
import Derived.Test.YtkdffofjnjamlaaDoorZVcCon2
import Derived.WalkKit
import Derived.ProofKit
import Derived.OpenShut
import Derived.JoinedCond
import Derived.Carry
import Derived.Deep.Slices
set_option linter.unusedVariables false
set_option linter.unusedSimpArgs false
namespace Go.Vc
open Go.RowKit Go.ChangeShapes

/-- How much there is of it. -/
def Kd.bulk : (k : Kd) → k.T → Nat
  | .str, l => l.length + 1
  | .sl k, xs => (xs.map k.bulk).sum + 1
  | .pair a b, x => a.bulk x.1 + b.bulk x.2
  | .unit, _ => 0
  | .int _, _ => 1
  | .bool, _ => 1

def AK.bulk : (a : AK) → a.T → Nat
  | .dat k, x => k.bulk x
  | .own _ k, xs => Kd.bulk (.sl k) xs
def ABulk : (l : List AK) → ATup l → Nat
  | [], _ => 0
  | a :: l, x => a.bulk x.1 + ABulk l x.2

theorem bulk_ints {i : IntKind} (xs : List Int) : Kd.bulk (.sl (.int i)) xs = xs.length + 1 := by
  show (xs.map (fun _ => 1)).sum + 1 = _
  induction xs with
  | nil => rfl
  | cons a l ih => simp only [List.map_cons, List.sum_cons, List.length_cons] at ih ⊢; omega
theorem bulk_len {k : Kd} (h : ∀ x, 1 ≤ k.bulk x) (xs : List k.T) : xs.length + 1 ≤ Kd.bulk (.sl k) xs := by
  show _ ≤ (xs.map k.bulk).sum + 1
  induction xs with
  | nil => simp
  | cons a l ih => have := h a; simp only [List.map_cons, List.sum_cons, List.length_cons]; omega
theorem bulk_sl_pos {k : Kd} (xs : List k.T) : 1 ≤ Kd.bulk (.sl k) xs := Nat.le_add_left _ _
theorem bulk_mem {k : Kd} {x : k.T} {xs : List k.T} (h : x ∈ xs) : k.bulk x + 1 ≤ Kd.bulk (.sl k) xs := by
  show _ ≤ (xs.map k.bulk).sum + 1
  induction xs with
  | nil => cases h
  | cons a l ih =>
    simp only [List.map_cons, List.sum_cons]
    rcases List.mem_cons.1 h with rfl | h
    · omega
    · have := ih h; omega

/-- How much a reading holds: any count that counts so. -/
structure Counts (H : Type) where
  d : DataW H → Nat
  ds : List (DataW H) → Nat
  nil : ds [] = 0
  cons : ∀ x l, ds (x :: l) = d x + ds l
  lit : ∀ l, 1 ≤ d (.lit l)
  str : ∀ b, b.length + 1 ≤ d (.lit (.string b))
  none : 1 ≤ d .nil
  sl : ∀ a b, ds a + 1 ≤ d (.slice a b)
  agg : ∀ a, ds a ≤ d (.agg a)

mutual
/-- A type holds data of a kind. -/
def kOk (E : Ty) : Nat → Nat → Kd → Bool
  | 0, _, _ => false
  | n + 1, t, k => match E.d t, k with
    | .int i, .int j => decide (i = j)
    | .bool, .bool => true
    | .str, .str => true
    | .sl e, .sl k => kOk E n e k && decide (E.sz e = some k.sz) && decide (0 < k.sz)
    | .st fs, k => fsOk E n 0 fs k && decide (E.sz t = some k.sz)
    | _, _ => false
def fsOk (E : Ty) : Nat → Nat → List (Nat × Nat) → Kd → Bool
  | 0, _, _, _ => false
  | n + 1, o, f :: r, .pair a b => kOk E n f.1 a && decide (f.2 = o) && decide (E.sz f.1 = some a.sz) &&
      (match r, b with
      | [], .unit => true
      | [g], _ => kOk E n g.1 b && decide (g.2 = o + a.sz) && decide (E.sz g.1 = some b.sz)
      | r, _ => fsOk E n (o + a.sz) r b)
  | _, _, _, _ => false
end

section
variable {H : Type} {enc : TypeId × Value → H} {w : World}

theorem sum_map_le {α : Type} {f : Nat → Nat} {g : α → Nat} {X : Nat → α} : ∀ (l : List Nat), (∀ i ∈ l, g (X i) ≤ f i) → ((l.map X).map g).sum ≤ (l.map f).sum
  | [], _ => by simp
  | i :: l, h => by
    have h1 := h i (by simp)
    have h2 := sum_map_le l (fun j hj => h j (by simp [hj]))
    simp only [List.map_cons, List.sum_cons]
    omega

theorem counts_map {C : Counts H} {D : Nat → DataW H} : ∀ (l : List Nat), C.ds (l.map D) = (l.map fun i => C.d (D i)).sum
  | [] => by simp [C.nil]
  | i :: l => by simp [C.cons, counts_map l]

theorem cellsOf_sz {E : Ty} (hE : E.Ok) {t n : Nat} (h : E.sz t = some n) : E.P.cellsOf t = n := by
  obtain ⟨inf, h1, h2, _⟩ := hE.sz h
  simp [Program.cellsOf, h1, h2]

theorem wf_inR {k : IntKind} {n : Int} (h : (Lit.int k n).wf = true) : InR k n := by
  simpa [Lit.wf, InR] using h

theorem trod_int' {P : Program} {fuel t : Nat} {i : IntKind} {cs : List Value} {x : DataW H × List MemPlace} (ht : P.underlying t = some (.int i)) (h : DataW.trod enc P w 0 (fun _ => true) true fuel t cs = some x) :
    ∃ n, cs = [.int i n] ∧ InR i n ∧ x = (.lit (.int i n), []) := by
  cases fuel with
  | zero => simp [DataW.trod] at h
  | succ fuel =>
    unfold DataW.trod at h
    simp only [ht] at h
    split at h
    all_goals first
      | (rename_i e; cases e; split at h
         · rename_i hc; cases h; obtain ⟨rfl, hw⟩ := hc; exact ⟨_, rfl, wf_inR hw, rfl⟩
         · cases h)
      | (rename_i e; cases e; done)
      | (cases h; done)
      | (rename_i e _; cases e; done)
      | (rename_i e _ _; cases e; done)

theorem trod_bool' {P : Program} {fuel t : Nat} {cs : List Value} {x : DataW H × List MemPlace} (ht : P.underlying t = some .bool) (h : DataW.trod enc P w 0 (fun _ => true) true fuel t cs = some x) :
    ∃ b, cs = [.bool b] ∧ x = (.lit (.bool b), []) := by
  cases fuel with
  | zero => simp [DataW.trod] at h
  | succ fuel =>
    unfold DataW.trod at h
    simp only [ht] at h
    split at h
    all_goals first
      | (cases h; exact ⟨_, rfl, rfl⟩)
      | (rename_i e; cases e; done)
      | (cases h; done)
      | (rename_i e _; cases e; done)
      | (rename_i e _ _; cases e; done)

theorem trod_str' {P : Program} {fuel t : Nat} {cs : List Value} {x : DataW H × List MemPlace} (ht : P.underlying t = some .string) (h : DataW.trod enc P w 0 (fun _ => true) true fuel t cs = some x) :
    ∃ s : ByteArray, cs = [.string s] ∧ s.size ≤ maxLen ∧ x = (.lit (.string s.data.toList), []) := by
  cases fuel with
  | zero => simp [DataW.trod] at h
  | succ fuel =>
    unfold DataW.trod at h
    simp only [ht] at h
    split at h
    all_goals first
      | (split at h
         · rename_i hc; cases h; exact ⟨_, rfl, hc, rfl⟩
         · cases h)
      | (rename_i e; cases e; done)
      | (cases h; done)
      | (rename_i e _; cases e; done)
      | (rename_i e _ _; cases e; done)

theorem trod_st' {P : Program} {fuel t : Nat} {fs : Array Field} {cs : List Value} {x : DataW H × List MemPlace} (ht : P.underlying t = some (.struct fs)) (h : DataW.trod enc P w 0 (fun _ => true) true fuel t cs = some x) :
    ∃ n xs, cs.length = P.cellsOf t ∧ (fs.toList.mapM fun f => DataW.trod enc P w 0 (fun _ => true) true n f.type ((cs.drop f.offset).take (P.cellsOf f.type))) = some xs ∧ x = (.agg (xs.map (·.1)), xs.flatMap (·.2)) := by
  cases fuel with
  | zero => simp [DataW.trod] at h
  | succ fuel =>
    unfold DataW.trod at h
    simp only [ht] at h
    split at h
    · rename_i hc
      obtain ⟨xs, h1, h2⟩ := Option.map_eq_some_iff.1 h
      exact ⟨fuel, xs, hc, h1, h2.symm⟩
    · cases h

/-- A reading of plain data, opened. -/
theorem trod_rep {E : Ty} (hE : E.Ok) (C : Counts H) : ∀ (n : Nat),
    (∀ (t : Nat) (k : Kd) (fuel : Nat) (cs : List Value) (x : DataW H × List MemPlace), kOk E n t k = true → DataW.trod enc E.P w 0 (fun _ => true) true fuel t cs = some x → ∃ y : k.T, Rep w (fun _ => False) k y cs ∧ k.bulk y ≤ C.d x.1) ∧
    (∀ (o : Nat) (fs : List Field) (k : Kd) (fuel : Nat) (cs : List Value) (xs : List (DataW H × List MemPlace)), fsOk E n o (fs.map fun f => (f.type, f.offset)) k = true →
      (fs.mapM fun f => DataW.trod enc E.P w 0 (fun _ => true) true fuel f.type ((cs.drop f.offset).take (E.P.cellsOf f.type))) = some xs →
      ∃ y : k.T, Rep w (fun _ => False) k y ((cs.drop o).take k.sz) ∧ k.bulk y ≤ C.ds (xs.map (·.1)))
  | 0 => ⟨fun _ _ _ _ _ h => by simp [kOk] at h, fun _ _ _ _ _ _ h => by simp [fsOk] at h⟩
  | n + 1 => by
    obtain ⟨ihA, ihB⟩ := trod_rep hE C n
    refine ⟨fun t k fuel cs x hk hx => ?_, fun o fs k fuel cs xs hk hx => ?_⟩
    · have hd := hE.d t
      simp only [kOk] at hk
      split at hk
      · rename_i i j e
        rw [e] at hd
        have hij : i = j := of_decide_eq_true hk
        subst hij
        obtain ⟨m, rfl, h1, rfl⟩ := trod_int' hd hx
        exact ⟨m, ⟨rfl, h1⟩, C.lit _⟩
      · rename_i e
        rw [e] at hd
        obtain ⟨b, rfl, rfl⟩ := trod_bool' hd hx
        exact ⟨b, rfl, C.lit _⟩
      · rename_i e
        rw [e] at hd
        obtain ⟨s, rfl, h1, rfl⟩ := trod_str' hd hx
        refine ⟨bs s, ⟨s, rfl, rfl, by simpa [maxLen] using h1⟩, ?_⟩
        have := C.str s.data.toList
        simp only [Kd.bulk, bs, List.length_map]
        exact this
      · rename_i e' k' e
        rw [e] at hd
        simp only [Bool.and_eq_true, decide_eq_true_eq] at hk
        obtain ⟨⟨hk1, hk2⟩, hk3⟩ := hk
        have hcell := cellsOf_sz hE hk2
        rcases Go.Deep.open_slice hd hx with ⟨rfl, rfl⟩ | ⟨a, len, cap, m, n', D, Pl, rfl, hb, hl, hm, hmm, rfl, hel⟩
        · exact ⟨[], ⟨none, 0, rfl, Nat.le_refl _, by omega, fun h => absurd rfl h⟩, by simpa [Kd.bulk] using C.none⟩
        · simp only [if_true] at hmm
          subst hmm
          haveI : Inhabited k'.T := ⟨k'.dft⟩
          obtain ⟨X, hX⟩ := Go.Deep.choose_lt (α := k'.T) (n := len) (p := fun i y => ∃ cs', World.cells? w 0 (a.add (i * E.P.cellsOf e')) (E.P.cellsOf e') = some cs' ∧ Rep w (fun _ => False) k' y cs' ∧ k'.bulk y ≤ C.d (D i)) (fun i hi => by
            obtain ⟨cs', h1, h2⟩ := hel i (by omega)
            obtain ⟨y, h3, h4⟩ := ihA _ _ _ _ _ hk1 h2
            exact ⟨y, cs', h1, h3, h4⟩)
          refine ⟨(List.range len).map X, ⟨some a, m, by simp, by simpa using hl, by simpa [maxLen] using hm, fun hne => ⟨a, rfl, ?_, fun h => h, fun i y hy => ?_⟩⟩, ?_⟩
          · have hpos : 0 < len := by
              cases len with
              | zero => simp at hne
              | succ n => omega
            obtain ⟨cs', h1, _, _⟩ := hX 0 hpos
            obtain ⟨_, h2, h3⟩ := World.cells?_some h1
            have hc0 : 0 < cs'.length := by omega
            have := h3 0 (by omega)
            rw [List.getElem?_eq_getElem hc0] at this
            have := cell_lt this
            rwa [add_block, add_block] at this
          · rw [List.getElem?_map] at hy
            obtain ⟨i', hi', rfl⟩ := Option.map_eq_some_iff.1 hy
            have hi := (List.getElem?_eq_some_iff.1 hi').1
            have hii := (List.getElem?_eq_some_iff.1 hi').2
            simp only [List.length_range] at hi
            simp only [List.getElem_range] at hii
            subst hii
            obtain ⟨cs', h1, h2, _⟩ := hX i hi
            refine ⟨cs', h2, fun j u hu => ?_⟩
            obtain ⟨_, h3, h4⟩ := World.cells?_some h1
            have hj := (List.getElem?_eq_some_iff.1 hu).1
            have := h4 j (by omega)
            rw [hu, addr_add_add, hcell] at this
            exact this
          · have h1 := C.sl ((List.range len).map D) ((List.range (m - len)).map fun j => D (len + j))
            have h2 : (((List.range len).map X).map k'.bulk).sum ≤ C.ds ((List.range len).map D) := by
              rw [counts_map]
              exact sum_map_le _ (fun i hi => by
                obtain ⟨_, _, _, h⟩ := hX i (by simpa using hi)
                exact h)
            simp only [Kd.bulk]
            omega
      · rename_i k' fs e
        rw [e] at hd
        obtain ⟨hd1, hd2⟩ := hd
        simp only [Bool.and_eq_true, decide_eq_true_eq] at hk
        obtain ⟨hk1, hk2⟩ := hk
        obtain ⟨m, xs, h1, h2, rfl⟩ := trod_st' hd1 hx
        obtain ⟨y, h3, h4⟩ := ihB 0 (E.P.fieldsOf t).toList _ m cs xs (by rw [hd2]; exact hk1) h2
        rw [List.drop_zero, List.take_of_length_le (by rw [h1, cellsOf_sz hE hk2]; exact Nat.le_refl _)] at h3
        exact ⟨y, h3, Nat.le_trans h4 (C.agg _)⟩
      · cases hk
    · cases fs with
      | nil => cases k <;> simp [fsOk] at hk
      | cons f r =>
        cases k with
        | pair a b =>
          simp only [List.map_cons, fsOk, Bool.and_eq_true, decide_eq_true_eq] at hk
          obtain ⟨⟨⟨hk1, hk2⟩, hk3⟩, hk4⟩ := hk
          rw [List.mapM_cons] at hx
          obtain ⟨x1, h1, hx⟩ := Option.bind_eq_some_iff.1 hx
          obtain ⟨xr, h2, hx⟩ := Option.bind_eq_some_iff.1 hx
          cases hx
          obtain ⟨y1, h3, h4⟩ := ihA _ _ _ _ _ hk1 h1
          rw [cellsOf_sz hE hk3, hk2] at h3
          have two : ∀ y2 : b.T, Rep w (fun _ => False) b y2 ((cs.drop (o + a.sz)).take b.sz) → b.bulk y2 ≤ C.ds (xr.map (·.1)) →
              ∃ y : (Kd.pair a b).T, Rep w (fun _ => False) (.pair a b) y ((cs.drop o).take (Kd.pair a b).sz) ∧ (Kd.pair a b).bulk y ≤ C.ds ((x1 :: xr).map (·.1)) := by
            intro y2 h5 h6
            refine ⟨(y1, y2), ⟨_, _, ?_, h3, h5⟩, ?_⟩
            · show (cs.drop o).take (a.sz + b.sz) = _
              rw [List.take_add, List.drop_drop]
            · rw [List.map_cons, C.cons]
              simp only [Kd.bulk]
              omega
          split at hk4
          · rename_i e1
            have : r = [] := by simpa using e1
            subst this
            have : xr = [] := by simpa using h2.symm
            subst this
            exact two () (by show (cs.drop (o + a.sz)).take 0 = []; simp) (by simp [Kd.bulk])
          · rename_i g e1
            obtain ⟨g', r', rfl, rfl, hr'⟩ : ∃ g' r', r = g' :: r' ∧ g = (g'.type, g'.offset) ∧ r' = [] := by
              cases r with
              | nil => simp at e1
              | cons g' r' =>
                simp only [List.map_cons, List.cons.injEq, List.map_eq_nil_iff] at e1
                exact ⟨g', r', rfl, e1.1.symm, e1.2⟩
            subst hr'
            simp only [Bool.and_eq_true, decide_eq_true_eq] at hk4
            obtain ⟨⟨hk5, hk6⟩, hk7⟩ := hk4
            rw [List.mapM_cons] at h2
            obtain ⟨x2, h7, h2⟩ := Option.bind_eq_some_iff.1 h2
            have hx2 : xr = [x2] := by simpa using h2.symm
            subst hx2
            obtain ⟨y2, h8, h9⟩ := ihA _ _ _ _ _ hk5 h7
            rw [cellsOf_sz hE hk7, hk6] at h8
            exact two y2 h8 (by simp [C.cons, C.nil]; exact h9)
          · obtain ⟨y2, h8, h9⟩ := ihB _ _ _ _ _ _ hk4 h2
            exact two y2 h8 h9
        | _ => simp [fsOk] at hk

theorem fsOk_agg {E : Ty} {n o : Nat} {fs : List (Nat × Nat)} {k : Kd} (h : fsOk E n o fs k = true) : k.isAgg = true := by
  cases n with
  | zero => simp [fsOk] at h
  | succ n => cases fs <;> cases k <;> simp_all [fsOk, Kd.isAgg]

theorem vrep_of {E : Ty} (hE : E.Ok) {n t : Nat} {k : Kd} {y : k.T} {v : Value} {F : Nat → Prop} {r : Reach} {base : Nat} (hk : kOk E n t k = true) (hv : Value.okWide E.P w r base t v) (hr : Rep w F k y v.cells.toList) : VRep w F k y v := by
  have hd := hE.d t
  cases n with
  | zero => simp [kOk] at hk
  | succ n =>
    simp only [kOk] at hk
    split at hk
    · rename_i i j e
      rw [e] at hd
      obtain ⟨m, rfl⟩ := WideShapes.okWide_int hd hv
      exact ⟨_, hr, rfl⟩
    · rename_i e
      rw [e] at hd
      have hd : E.P.underlying t = some .bool := hd
      obtain ⟨b, rfl⟩ : ∃ b, v = .bool b := by
        simp only [Value.okWide, hd, Cell.okWide] at hv
        cases v <;> simp_all [Cell.ok]
      exact ⟨_, hr, rfl⟩
    · rename_i e
      rw [e] at hd
      obtain ⟨s, rfl⟩ := WideShapes.okWide_string hd hv
      exact ⟨_, hr, rfl⟩
    · rename_i e' k' e
      rw [e] at hd
      obtain ⟨a, l, c, rfl⟩ := WideShapes.okWide_slice hd hv
      exact ⟨_, hr, rfl⟩
    · rename_i e
      rw [e] at hd
      obtain ⟨hd1, _⟩ := hd
      simp only [Value.okWide, hd1] at hv
      obtain ⟨cs, rfl, _⟩ := hv
      refine ⟨cs.toList, hr, ?_⟩
      simp only [Bool.and_eq_true] at hk
      rw [if_pos (fsOk_agg hk.1)]
    · cases hk

def kAllOk (E : Ty) : List Nat → List Kd → Bool
  | [], [] => true
  | t :: ts, k :: ks => kOk E 20 t k && kAllOk E ts ks
  | _, _ => false

/-- All arguments, opened. -/
theorem trodAll_reps {E : Ty} (hE : E.Ok) (C : Counts H) {base : Nat} : ∀ {ts : List Nat} {ks : List Kd} {vs : List Value} {ds : List (DataW H)} {p : List MemPlace}, kAllOk E ts ks = true →
    (∀ (j : Nat) (t : Nat) (v : Value), ts[j]? = some t → vs[j]? = some v → Value.okWide E.P w .any base t v) → DataW.TrodAll enc E.P w 0 (fun _ => true) true ts vs ds p →
    ∃ x : ATup (ks.map AK.dat), AReps w (fun _ => False) (ks.map AK.dat) x vs ∧ ABulk _ x ≤ C.ds ds ∧ ds.length = ts.length
  | [], [], [], [], p, _, _, h => ⟨(), rfl, Nat.zero_le _, rfl⟩
  | [], [], _ :: _, _, p, _, _, h => h.elim
  | [], [], [], _ :: _, p, _, _, h => by simp [DataW.TrodAll] at h
  | [], _ :: _, _, _, _, hk, _, _ => by simp [kAllOk] at hk
  | _ :: _, [], _, _, _, hk, _, _ => by simp [kAllOk] at hk
  | t :: ts, k :: ks, vs, ds, p, hk, hv, h => by
    cases vs with
    | nil => simp [DataW.TrodAll] at h
    | cons v vs =>
      cases ds with
      | nil => simp [DataW.TrodAll] at h
      | cons d ds =>
        obtain ⟨p1, q, h1, h2, _⟩ := h
        simp only [kAllOk, Bool.and_eq_true] at hk
        obtain ⟨fuel, h3⟩ := h1
        obtain ⟨y, h4, h5⟩ := (trod_rep hE C 20).1 t k fuel _ _ hk.1 h3
        obtain ⟨x, h6, h7, h8⟩ := trodAll_reps hE C hk.2 (fun j t v ht hv' => hv (j + 1) t v ht hv') h2
        refine ⟨(y, x), ⟨v, vs, rfl, vrep_of hE hk.1 (hv 0 t v rfl rfl) h4, h6⟩, ?_, by simp [h8]⟩
        rw [C.cons]
        show k.bulk y + ABulk (ks.map AK.dat) x ≤ _
        exact Nat.add_le_add h5 h7

theorem handles_dat : ∀ (ks : List Kd) (vs : List Value), handles (ks.map AK.dat) vs = []
  | [], _ => rfl
  | _ :: _, [] => rfl
  | _ :: ks, _ :: vs => handles_dat ks vs

/-- All arguments read as before. -/
theorem below_trodAll {P : Program} (hl : laidOutB P = true) {W' : World} (hb : Below w.heap.size w W') : ∀ {ts : List Nat} {vs : List Value} {ds : List (DataW H)} {p : List MemPlace},
    (ts.all fun t => P.readableRec t && decide (t < P.types.size)) = true → (∀ x ∈ p, x.block < w.heap.size) → DataW.TrodAll enc P w 0 (fun _ => true) true ts vs ds p →
    DataW.TrodAll enc P W' 0 (fun b => decide (b < w.heap.size)) true ts vs ds p
  | [], [], [], p, _, _, h => h
  | [], _ :: _, _, p, _, _, h => by simp [DataW.TrodAll] at h
  | [], [], _ :: _, p, _, _, h => by simp [DataW.TrodAll] at h
  | t :: ts, vs, ds, p, hr, hlt, h => by
    cases vs with
    | nil => simp [DataW.TrodAll] at h
    | cons v vs =>
      cases ds with
      | nil => simp [DataW.TrodAll] at h
      | cons d ds =>
        obtain ⟨p1, q, h1, h2, rfl⟩ := h
        simp only [List.all_cons, Bool.and_eq_true, decide_eq_true_eq] at hr
        exact ⟨p1, q, Below.trod hl hr.1.1 hr.1.2 h1 hb (fun x hx => hlt x (List.mem_append.2 (.inl hx))), below_trodAll hl hb hr.2 (fun x hx => hlt x (List.mem_append.2 (.inr hx))) h2, rfl⟩

/-- WHAT A LAW's ROW ASKS OF A CALL, from the law's contract. -/
theorem law_call {E : Ty} (hE : E.Ok) (C : Counts H) {f : Nat} {fn : Func} {ks : List Kd} {pre : ATup (ks.map AK.dat) → Prop} {tb : Nat}
    {gl : Gl} (hc : ({ args := ks.map AK.dat, res := [AK.dat .bool], pre := pre, post := fun _ y => y.1 = true } : Con).holds E.P gl f) (hgl : GlOk gl w (fun _ => False)) (hl : laidOutB E.P = true)
    (hp : (fn.params.toList.all fun t => E.P.readableRec t && decide (t < E.P.types.size)) = true) (hk : kAllOk E fn.params.toList ks = true) (hres : fn.resultTypes.toList = [tb]) (htb : E.P.underlying tb = some .bool)
    {s : ChangeSpec} (hs : s.vars = []) (hfn : ∀ ds : List (DataW H), ds.length = fn.params.toList.length → s.fn H ds = { results := [.lit (.bool true)], args := ds })
    {base : Nat} {args : Array Value} {ds gs : List (DataW H)} {before : List MemPlace}
    (hval : ∀ (j : Nat) t v, fn.params[j]? = some t → args[j]? = some v → Value.okWide E.P w .any base t v)
    (hW : DataW.Whole enc E.P fn.params.toList s.vars false w args.toList ds gs before)
    (hpre : ∀ x : ATup (ks.map AK.dat), ABulk _ x ≤ C.ds (ds ++ gs) → pre x) :
    Calls E.P f args w fun e W' => ∃ v, e = .returned v ∧ s.post enc E.P fn false true false false w args v W' := by
  have hW' := hW
  obtain ⟨p, q, hA, hV, rfl, _, _⟩ := hW
  rw [hs] at hV
  obtain ⟨rfl, rfl⟩ := trodVars_none hV
  rw [List.append_nil] at hpre hW'
  obtain ⟨x, hx, hb, hlen⟩ := trodAll_reps hE C hk (fun j t v ht hv => hval j t v (by simpa using ht) (by simpa using hv)) hA
  have none : ∀ b, ¬ ownBlk (ks.map AK.dat) args.toList b := fun b hb => by
    obtain ⟨v, hv, _⟩ := hb
    rw [handles_dat] at hv
    cases hv
  have hFF : (fun b => False ∨ ownBlk (ks.map AK.dat) args.toList b) = fun _ => False := by
    funext b
    exact propext ⟨fun h => h.elim id (none b), fun h => h.elim⟩
  have hcall := hc w (fun _ => False) x args.toList (fun _ h => h.elim) (by rw [hFF]; exact hgl)
    (by
      have : (fun b => False ∨ ownBlk (ks.map AK.dat) args.toList b) = fun _ => False := by
        funext b
        exact propext ⟨fun h => h.elim id (none b), fun h => h.elim⟩
      rw [this]
      exact hx)
    (fun i j v u b hi => by rw [handles_dat] at hi; simp at hi) (hpre x hb)
  rw [Array.toArray_toList] at hcall
  refine hcall.mono fun e W' hw => ?_
  rcases hw with hw | hw
  case inr => cases hw.1
  obtain ⟨us, y, rfl, hy, hkept, hrep, _, _⟩ := hw
  have hbelow : Below w.heap.size w W' := Kept.below ⟨hkept.os, hkept.tape, hkept.output, hkept.size, fun b hb _ => hkept.block b hb (none b)⟩
  obtain ⟨v, r, rfl, h1, h2⟩ := hrep
  obtain rfl : r = [] := h2
  have hv := VRep_bool.1 h1
  subst hv
  have hy : y.1 = true := hy
  rw [hy]
  have hsz : fn.resultTypes.size = 1 := by
    have := congrArg List.length hres
    simpa using this
  refine ⟨_, rfl, ds, [], p, [], p, [], hW', ?_, ?_, ?_, hbelow.frame _, fun h => by cases h⟩
  · rw [List.append_nil, hfn ds hlen, hres, hsz]
    exact trodAll_mk1 (shut_bool htb true)
  · rw [List.append_nil, hfn ds hlen]
    exact below_trodAll hl hbelow hp (fun x hx => by simpa using hW'.lt x hx) hA
  · rw [List.append_nil, hfn ds hlen, hs]
    rfl
end
theorem dft_int (k : IntKind) : Kd.dft (Kd.int k) = (0 : Int) := rfl
theorem dft_sl (k : Kd) : Kd.dft (Kd.sl k) = ([] : List k.T) := rfl
theorem dft_str : Kd.dft Kd.str = ([] : List Int) := rfl
end Go.Vc
