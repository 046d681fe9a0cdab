/- A state that fits a loop's head is one. -/
import Derived.Test.YtkdffofjnjamlaaDoorZVcLoop
set_option linter.unusedVariables false
set_option linter.unusedSimpArgs false
namespace Go.Vc
open Go.RowKit

section
variable {B : Base} {ρ : Nat → Value} {st : St} {a : Act} {fs : List Act} {w : World}

theorem as_wf {w : World} {F : Nat → Prop} {k : Kd} {x : k.T} {v : Value} (h : VRep w F k x v) : k.wf x := by
  obtain ⟨cs, h1, _⟩ := h
  exact h1.wf

/-- Where the head's handles come from. -/
def handleOf (ρ : Nat → Value) (sig : List (Nat × SV)) (n : Nat) : Value :=
  match srcOf sig n with
  | .own m => ρ m
  | .cst c => c
  | _ => ρ n

structure FitCx (B : Base) (ρ : Nat → Value) (st : St) (w : World) (C' : Cx) (sig : List (Nat × SV)) (srcs : List Nat) : Prop where
  w : C'.w = w
  rho : ∀ n, C'.ρ n = handleOf ρ sig n
  F : ∀ b, C'.F b → B.Fb b ∨ ∃ m, m ∈ srcs ∧ live st.hp m ∧ blk (ρ m) = some b
  lp : C'.lp = B.lp

theorem FitCx.mv {C' : Cx} {sig : List (Nat × SV)} {srcs : List Nat} (f : FitCx B ρ st w C' sig srcs) : (cx B ρ st.hp w).mv C' (fun n => okSrc st sig C'.N n = true) where
  w := f.w
  F b _ hb := by
    rcases f.F b hb with h | ⟨m, _, h1, h2⟩
    · exact .inl h
    · exact .inr ⟨m, h1, h2⟩
  ok n hn := by
    simp only [okSrc, Bool.and_eq_true, decide_eq_true_eq] at hn
    refine ⟨hn.1.1, ?_⟩
    rw [f.rho]
    unfold handleOf
    have := hn.2
    split at this
    · rename_i m hm
      rw [hm]
      simp only [beq_iff_eq] at this
      rw [this]
    · cases this
  lp := f.lp

theorem asData_rel (h : StRel B ρ st a fs w) {C' : Cx} {sig : List (Nat × SV)} {srcs : List Nat} (f : FitCx B ρ st w C' sig srcs) {k : Kd} {s : SV} {x : k.T} {v : Value} (hx : st.asData k s = some x)
    (hs : s.rel (cx B ρ st.hp w) v) (ht : ∀ m ∈ s.names, m ∉ srcs) : VRep C'.w C'.F k x v := by
  unfold St.asData at hx
  split at hx
  · rename_i y hy
    cases hx
    exact VRep.mv f.mv (as_rel hy hs)
  · rename_i hnone
    clear hnone
    split at hx
    · split at hx
      · rename_i k' xs hl
        split at hx
        · rename_i e
          subst e
          cases hx
          obtain ⟨A, c, h1, h2, h3, h4⟩ := list_rel h hs hl
          refine VRep_sl.2 ⟨A, c, h1, h2, h3, fun hne => ?_⟩
          obtain ⟨ad, rfl, h5, h6⟩ := h4 hne
          have hF : ¬ C'.F ad.block := by
            intro hb
            -- whose block is it?
            have key : ∀ n, n ∈ s.names → live st.hp n → blk (ρ n) = some ad.block → False := by
              intro n hn hl' hbn
              rcases f.F _ hb with hb | ⟨m, hm1, hm2, hm3⟩
              · exact (h.h.own n _ hl' hbn).2 hb
              · have := h.h.sep m n _ hm2 hl' hm3 hbn
                subst this
                exact ht _ hn hm1
            cases s <;> simp only [St.list] at hl <;> try (cases hl; done)
            case dat k0 x0 =>
              cases k0 <;> simp only at hl <;> try (cases hl; done)
              cases hl
              obtain ⟨A', c', e1, _, _, e2⟩ := VRep_sl.1 hs
              rw [h1] at e1
              simp only [Value.slice.injEq] at e1
              obtain ⟨ad', e3, _, e4, _⟩ := e2 hne
              rw [← e1.1] at e3
              cases e3
              rcases f.F _ hb with hb | ⟨m, _, hm2, hm3⟩
              · exact e4 (.inl hb)
              · exact e4 (.inr ⟨m, hm2, hm3⟩)
            case own n =>
              obtain ⟨e', he⟩ := St.row_some hl
              refine key n (by simp [SV.names]) ⟨_, he⟩ ?_
              rw [← show v = ρ n from hs.2.1, h1]; rfl
            case sub n k0 off len =>
              split at hl
              · rename_i k'' xs' hrw
                split at hl
                · obtain ⟨e', he⟩ := St.row_some hrw
                  refine key n (by simp [SV.names]) ⟨_, he⟩ ?_
                  obtain ⟨_, A0, m, cap, A', cc, e2, e3, e4, _, _, e5⟩ := hs
                  simp only at e2
                  rw [h1] at e3
                  simp only [Value.slice.injEq] at e3
                  rcases e5 with e5 | e5
                  · rw [e2]
                    rw [← e3.1] at e5
                    cases A0 with
                    | none => cases e5
                    | some ad0 => simp only [Option.map_some, Option.some.injEq] at e5; simp [blk, e5, add_block]
                  · exfalso
                    have hpos : 0 < xs.length := List.length_pos_iff.2 hne
                    omega
                · cases hl
              · cases hl
          refine ⟨ad, rfl, by rw [f.w]; exact h5, hF, ?_⟩
          have hm := f.mv.F
          rw [f.w]
          exact h6.imp (fun x _ cs hr => hr.mono (fun b hb hc => hm b hb hc)) (fun _ _ hu => hu)
        · cases hx
      · cases hx
    · cases hx

theorem PE_fit (h : StRel B ρ st a fs w) {C' : Cx} {sig : List (Nat × SV)} {srcs : List Nat} (f : FitCx B ρ st w C' sig srcs) {look : Nat → SV} {val : Nat → Value} (hlook : ∀ i, (look i).rel (cx B ρ st.hp w) (val i)) :
    ∀ {pl : List PE} {o : List Prop} {y : PE.Tup pl}, PE.fit st look pl = some (o, y) → (∀ p ∈ o, p) → (∀ n ∈ PE.names pl, okSrc st sig C'.N n = true) → (∀ m ∈ PE.taken look pl, m ∉ srcs) →
      (∀ p ∈ PE.sig look pl, p.1 < C'.N ∧ sameSrc (srcOf sig p.1) p.2 = true) → PE.wf pl y ∧ ∀ i s, (i, s) ∈ PE.mk pl y → s.rel C' (val i)
  | [], o, y, hf, ho, _, _, _ => ⟨trivial, fun i s hm => by cases hm⟩
  | .var i k :: l, o, y, hf, ho, hn, ht, hs => by
    simp only [PE.fit] at hf
    split at hf
    · rename_i x o' y' e1 e2
      cases hf
      obtain ⟨h1, h2⟩ := PE_fit h f hlook e2 ho (fun n hm => hn n hm) (fun m hm => ht m (by simp [PE.taken, hm])) (fun p hp => hs p hp)
      have h3 := asData_rel h f e1 (hlook i) (fun m hm => ht m (by simp [PE.taken, hm]))
      refine ⟨⟨as_wf h3, h1⟩, fun j s hm => ?_⟩
      rcases List.mem_cons.1 hm with e | hm
      · cases e; exact h3
      · exact h2 j s hm
    · cases hf
  | .own i n :: l, o, y, hf, ho, hn, ht, hs => by
    simp only [PE.fit] at hf
    split at hf
    · rename_i o' y' e2
      cases hf
      obtain ⟨h1, h2⟩ := PE_fit h f hlook e2 ho (fun n hm => hn n hm) (fun m hm => ht m hm) (fun p hp => hs p (by simp [PE.sig, hp]))
      refine ⟨h1, fun j s hm => ?_⟩
      rcases List.mem_cons.1 hm with e | hm
      · cases e
        obtain ⟨h3, h4⟩ := hs (n, look i) (by simp [PE.sig])
        have hl := hlook i
        refine ⟨h3, ?_⟩
        rw [f.rho]
        unfold handleOf
        unfold sameSrc at h4
        split at h4
        · rename_i m m' e3 e4
          simp only [beq_iff_eq] at h4
          rw [e3]
          dsimp only at e4
          rw [e4] at hl
          subst h4
          exact ⟨hl.2.1, hl.2.2⟩
        · rename_i c c' e3 e4
          simp only [Bool.and_eq_true] at h4
          rw [e3]
          dsimp only at e4
          rw [e4] at hl
          have hl : val i = c' := hl
          rw [hl, nilSlice_eq h4.2, nilSlice_eq h4.1]
          exact ⟨rfl, _, _, _, rfl⟩
        · cases h4
      · exact h2 j s hm
    · cases hf
  | .same i s0 :: l, o, y, hf, ho, hn, ht, hs => by
    simp only [PE.fit] at hf
    split at hf
    · rename_i p o' y' e1 e2
      cases hf
      obtain ⟨h1, h2⟩ := PE_fit h f hlook e2 (fun q hq => ho q (List.mem_append_right _ hq)) (fun n hm => hn n (by simp [PE.names, hm])) (fun m hm => ht m hm) (fun p hp => hs p hp)
      refine ⟨h1, fun j s hm => ?_⟩
      rcases List.mem_cons.1 hm with e | hm
      · cases e
        exact SV.rel.mv f.mv (fun n hm => hn n (by simp [PE.names, hm])) (sameSV_rel e1 (fun q hq => ho q (List.mem_append_left _ hq)) (hlook i))
      · exact h2 j s hm
    · cases hf

theorem mk_places : ∀ (pl : List PE) (y : PE.Tup pl), (PE.mk pl y).map (·.1) = PE.places pl
  | [], _ => rfl
  | .var i k :: l, y => by simp [PE.mk, PE.places, mk_places l y.2]
  | .own i n :: l, y => by simp [PE.mk, PE.places, mk_places l y]
  | .same i s :: l, y => by simp [PE.mk, PE.places, mk_places l y]

theorem mk_lookup {sl : Slots} {i : Nat} {s : SV} (h : sl.lookup i = some s) : (i, s) ∈ sl := by
  induction sl with
  | nil => cases h
  | cons p l ih =>
    obtain ⟨j, t⟩ := p
    rw [lookup_cons] at h
    split at h
    · rename_i e; cases h; subst e; exact List.mem_cons_self
    · exact List.mem_cons_of_mem _ (ih h)

def isPlain : Ob → Bool
  | .siter _ _ | .dfr => true
  | _ => false

/-- What an object at the head is. -/
theorem OE_get (sig : List (Nat × SV)) : ∀ {ol : List OE} {n : Nat} {o : List Prop} {z : OE.Tup ol}, OE.fit st sig n ol = some (o, z) → (∀ p ∈ o, p) → OE.varB sig n ol = true → ∀ j ob, (OE.mk ol z)[j]? = some (some ob) →
    (∃ e k xs, ob = .row e k xs ∧ ((∃ m, srcOf sig (n + j) = .own m ∧ st.hp[m]? = some (some (.row e k xs)) ∧ m ∈ OE.srcs sig n ol) ∨ (∃ c, srcOf sig (n + j) = .cst c ∧ nilSlice c = true ∧ xs = []))) ∨
    (∃ t p y cs q, ob = .var t ((PE.mk p y).map (·.2)) ∧ st.hp[n + j]? = some (some (.var t cs)) ∧ cs.length = p.length ∧ PE.fit st (cellLook st (n + j)) p = some (q, y) ∧ (∀ x ∈ q, x) ∧ srcOf sig (n + j) = .own (n + j) ∧
      n + j ∈ OE.srcs sig n ol ∧ PE.places p = List.range p.length ∧ (∀ m ∈ PE.names p, m ∈ OE.allNames ol) ∧ (∀ m ∈ PE.taken (cellLook st (n + j)) p, m ∈ OE.allTaken st n ol) ∧ (∀ x ∈ PE.sig (cellLook st (n + j)) p, x ∈ OE.sig st n ol)) ∨
    (isPlain ob = true ∧ st.hp[n + j]? = some (some ob) ∧ srcOf sig (n + j) = .own (n + j) ∧ n + j ∈ OE.srcs sig n ol)
  | [], n, o, z, hf, ho, hv, j, ob, hm => by cases hm
  | .dead :: l, n, o, z, hf, ho, hv, j, ob, hm => by
    simp only [OE.fit] at hf
    split at hf
    · rename_i o' z' e1
      cases hf
      cases j with
      | zero => cases hm
      | succ j =>
        have := OE_get sig e1 ho hv j ob hm
        rw [show n + 1 + j = n + (j + 1) by omega] at this
        exact this
    · cases hf
  | .row e k :: l, n, o, z, hf, ho, hv, j, ob, hm => by
    simp only [OE.fit] at hf
    split at hf
    · rename_i o' z' e1
      have lift : ∀ {z1 : OE.Tup l}, z1 = z' → o' = o → ∀ j, (OE.mk l z1)[j]? = some (some ob) → _ := fun {z1} hz1 ho' j hj => OE_get sig e1 (by rw [ho']; exact ho) hv j ob (by rw [← hz1]; exact hj)
      split at hf
      · rename_i m hsrc
        split at hf
        · rename_i e' k' xs' hob
          split at hf
          · rename_i hk
            subst hk
            split at hf
            · rename_i he
              subst he
              cases hf
              cases j with
              | zero =>
                cases hm
                exact .inl ⟨_, _, _, rfl, .inl ⟨m, hsrc, hob, by simp [OE.srcs, hsrc]⟩⟩
              | succ j =>
                have := lift rfl rfl j hm
                rw [show n + 1 + j = n + (j + 1) by omega] at this
                simp only [OE.srcs, hsrc, OE.sig, OE.allNames, OE.allTaken]
                rcases this with ⟨e, k, xs, h1, h2 | h2⟩ | h1 | ⟨h1, h2, h3, h4⟩
                · obtain ⟨m', h3, h4, h5⟩ := h2
                  exact .inl ⟨e, k, xs, h1, .inl ⟨m', h3, h4, List.mem_cons_of_mem _ h5⟩⟩
                · exact .inl ⟨e, k, xs, h1, .inr h2⟩
                · obtain ⟨t, p, y, cs, q, h2, h3, h4, h5, h6, h7, h8, h9⟩ := h1
                  exact .inr (.inl ⟨t, p, y, cs, q, h2, h3, h4, h5, h6, h7, List.mem_cons_of_mem _ h8, h9⟩)
                · exact .inr (.inr ⟨h1, h2, h3, List.mem_cons_of_mem _ h4⟩)
            · cases hf
          · cases hf
        · cases hf
      · rename_i c hsrc
        split at hf
        · rename_i hn
          cases hf
          cases j with
          | zero =>
            cases hm
            exact .inl ⟨_, _, _, rfl, .inr ⟨c, hsrc, hn, rfl⟩⟩
          | succ j =>
            have := lift rfl rfl j hm
            rw [show n + 1 + j = n + (j + 1) by omega] at this
            simp only [OE.srcs, hsrc, OE.sig, OE.allNames, OE.allTaken]
            exact this
        · cases hf
      · cases hf
    · cases hf
  | .rowSame e k xs :: l, n, o, z, hf, ho, hv, j, ob, hm => by
    simp only [OE.fit] at hf
    split at hf
    · rename_i o' z' e1
      split at hf
      · rename_i m hsrc
        split at hf
        · rename_i e' k' xs' hob
          split at hf
          · rename_i hk
            subst hk
            split at hf
            · rename_i he
              subst he
              cases hf
              have hxs : xs' = xs := ho _ (by simp [castL])
              cases j with
              | zero =>
                cases hm
                exact .inl ⟨_, _, _, rfl, .inl ⟨m, hsrc, by rw [← hxs]; exact hob, by simp [OE.srcs, hsrc]⟩⟩
              | succ j =>
                have := OE_get sig e1 (fun p hp => ho p (by simp [hp])) hv j ob hm
                rw [show n + 1 + j = n + (j + 1) by omega] at this
                simp only [OE.srcs, hsrc, OE.sig, OE.allNames, OE.allTaken]
                rcases this with ⟨e, k, xs, h1, h2 | h2⟩ | h1 | ⟨h1, h2, h3, h4⟩
                · obtain ⟨m', h3, h4, h5⟩ := h2
                  exact .inl ⟨e, k, xs, h1, .inl ⟨m', h3, h4, List.mem_cons_of_mem _ h5⟩⟩
                · exact .inl ⟨e, k, xs, h1, .inr h2⟩
                · obtain ⟨t, p, y, cs, q, h2, h3, h4, h5, h6, h7, h8, h9⟩ := h1
                  exact .inr (.inl ⟨t, p, y, cs, q, h2, h3, h4, h5, h6, h7, List.mem_cons_of_mem _ h8, h9⟩)
                · exact .inr (.inr ⟨h1, h2, h3, List.mem_cons_of_mem _ h4⟩)
            · cases hf
          · cases hf
        · cases hf
      · cases hf
    · cases hf
  | .var t p :: l, n, o, z, hf, ho, hv, j, ob, hm => by
    simp only [OE.fit] at hf
    split at hf
    · rename_i o' z' t' cs e1 hob
      split at hf
      · rename_i hc
        obtain ⟨rfl, hlen⟩ := hc
        split at hf
        · rename_i q y e2
          cases hf
          simp only [OE.varB, Bool.and_eq_true, beq_iff_eq] at hv
          obtain ⟨⟨hv1, hv2⟩, hv3⟩ := hv
          have hsrc : srcOf sig n = .own n := by
            unfold srcOf
            split at hv1
            · rename_i hnone; rw [hnone]
            · cases hv1
          cases j with
          | zero =>
            cases hm
            exact .inr (.inl ⟨_, p, y, cs, q, rfl, hob, hlen, e2, fun x hx => ho x (List.mem_append_left _ hx), hsrc, by simp [OE.srcs], hv2, fun m hm => by simp [OE.allNames, hm], fun m hm => by simp only [OE.allTaken]; exact List.mem_append_left _ hm, fun x hx => by simp only [OE.sig]; exact List.mem_append_left _ hx⟩)
          | succ j =>
            have := OE_get sig e1 (fun p hp => ho p (List.mem_append_right _ hp)) hv3 j ob hm
            rw [show n + 1 + j = n + (j + 1) by omega] at this
            rcases this with ⟨e, k, xs, h1, h2 | h2⟩ | h1 | ⟨h1, h2, h3, h4⟩
            · obtain ⟨m', h3, h4, h5⟩ := h2
              exact .inl ⟨e, k, xs, h1, .inl ⟨m', h3, h4, by simp only [OE.srcs]; exact List.mem_cons_of_mem _ h5⟩⟩
            · exact .inl ⟨e, k, xs, h1, .inr h2⟩
            · obtain ⟨t, p, y, cs, q, h2, h3, h4, h5, h6, h7, h8, h9, h10, h11, h12⟩ := h1
              exact .inr (.inl ⟨t, p, y, cs, q, h2, h3, h4, h5, h6, h7, by simp only [OE.srcs]; exact List.mem_cons_of_mem _ h8, h9, fun m hm => by simp only [OE.allNames]; exact List.mem_append_right _ (h10 m hm),
                fun m hm => by simp only [OE.allTaken]; exact List.mem_append_right _ (h11 m hm), fun x hx => by simp only [OE.sig]; exact List.mem_append_right _ (h12 x hx)⟩)
            · exact .inr (.inr ⟨h1, h2, h3, by simp only [OE.srcs]; exact List.mem_cons_of_mem _ h4⟩)
        · cases hf
      · cases hf
    · cases hf
  | .iter t :: l, n, o, z, hf, ho, hv, j, ob, hm => by
    simp only [OE.fit] at hf
    split at hf
    · rename_i o' z' t' pos e1 hob
      cases hf
      simp only [OE.varB, Bool.and_eq_true] at hv
      obtain ⟨hv1, hv3⟩ := hv
      have hsrc : srcOf sig n = .own n := by
        unfold srcOf
        split at hv1
        · rename_i hnone; rw [hnone]
        · cases hv1
      cases j with
      | zero =>
        cases hm
        have : t' = t := ho _ (by simp)
        rw [this] at hob
        exact .inr (.inr ⟨rfl, hob, hsrc, by simp [OE.srcs]⟩)
      | succ j =>
        have := OE_get sig e1 (fun p hp => ho p (by simp [hp])) hv3 j ob hm
        rw [show n + 1 + j = n + (j + 1) by omega] at this
        simp only [OE.srcs, OE.sig, OE.allNames, OE.allTaken]
        rcases this with ⟨e, k, xs, h1, h2 | h2⟩ | h1 | ⟨h1, h2, h3, h4⟩
        · obtain ⟨m', h3, h4, h5⟩ := h2
          exact .inl ⟨e, k, xs, h1, .inl ⟨m', h3, h4, List.mem_cons_of_mem _ h5⟩⟩
        · exact .inl ⟨e, k, xs, h1, .inr h2⟩
        · obtain ⟨t, p, y, cs, q, h2, h3, h4, h5, h6, h7, h8, h9⟩ := h1
          exact .inr (.inl ⟨t, p, y, cs, q, h2, h3, h4, h5, h6, h7, List.mem_cons_of_mem _ h8, h9⟩)
        · exact .inr (.inr ⟨h1, h2, h3, List.mem_cons_of_mem _ h4⟩)
    · cases hf
  | .iterSame t ps :: l, n, o, z, hf, ho, hv, j, ob, hm => by
    simp only [OE.fit] at hf
    split at hf
    · rename_i o' z' t' pos e1 hob
      cases hf
      simp only [OE.varB, Bool.and_eq_true] at hv
      obtain ⟨hv1, hv3⟩ := hv
      have hsrc : srcOf sig n = .own n := by
        unfold srcOf
        split at hv1
        · rename_i hnone; rw [hnone]
        · cases hv1
      cases j with
      | zero =>
        cases hm
        have h1 : t' = t := ho _ (by simp)
        have h2 : pos = ps := ho _ (by simp)
        rw [h1, h2] at hob
        exact .inr (.inr ⟨rfl, hob, hsrc, by simp [OE.srcs]⟩)
      | succ j =>
        have := OE_get sig e1 (fun p hp => ho p (by simp [hp])) hv3 j ob hm
        rw [show n + 1 + j = n + (j + 1) by omega] at this
        simp only [OE.srcs, OE.sig, OE.allNames, OE.allTaken]
        rcases this with ⟨e, k, xs, h1, h2 | h2⟩ | h1 | ⟨h1, h2, h3, h4⟩
        · obtain ⟨m', h3, h4, h5⟩ := h2
          exact .inl ⟨e, k, xs, h1, .inl ⟨m', h3, h4, List.mem_cons_of_mem _ h5⟩⟩
        · exact .inl ⟨e, k, xs, h1, .inr h2⟩
        · obtain ⟨t, p, y, cs, q, h2, h3, h4, h5, h6, h7, h8, h9⟩ := h1
          exact .inr (.inl ⟨t, p, y, cs, q, h2, h3, h4, h5, h6, h7, List.mem_cons_of_mem _ h8, h9⟩)
        · exact .inr (.inr ⟨h1, h2, h3, List.mem_cons_of_mem _ h4⟩)
    · cases hf
  | .dfr :: l, n, o, z, hf, ho, hv, j, ob, hm => by
    simp only [OE.fit] at hf
    split at hf
    · rename_i o' z' e1 hob
      cases hf
      simp only [OE.varB, Bool.and_eq_true] at hv
      obtain ⟨hv1, hv3⟩ := hv
      have hsrc : srcOf sig n = .own n := by
        unfold srcOf
        split at hv1
        · rename_i hnone; rw [hnone]
        · cases hv1
      cases j with
      | zero =>
        cases hm
        exact .inr (.inr ⟨rfl, hob, hsrc, by simp [OE.srcs]⟩)
      | succ j =>
        have := OE_get sig e1 (fun p hp => ho p (by simp [hp])) hv3 j ob hm
        rw [show n + 1 + j = n + (j + 1) by omega] at this
        simp only [OE.srcs, OE.sig, OE.allNames, OE.allTaken]
        rcases this with ⟨e, k, xs, h1, h2 | h2⟩ | h1 | ⟨h1, h2, h3, h4⟩
        · obtain ⟨m', h3, h4, h5⟩ := h2
          exact .inl ⟨e, k, xs, h1, .inl ⟨m', h3, h4, List.mem_cons_of_mem _ h5⟩⟩
        · exact .inl ⟨e, k, xs, h1, .inr h2⟩
        · obtain ⟨t, p, y, cs, q, h2, h3, h4, h5, h6, h7, h8, h9⟩ := h1
          exact .inr (.inl ⟨t, p, y, cs, q, h2, h3, h4, h5, h6, h7, List.mem_cons_of_mem _ h8, h9⟩)
        · exact .inr (.inr ⟨h1, h2, h3, List.mem_cons_of_mem _ h4⟩)
    · cases hf

/-- No two objects at the head come from one. -/
theorem srcs_mem (sig : List (Nat × SV)) : ∀ (ol : List OE) (n j : Nat) (m : Nat), (∃ oe, ol[j]? = some oe ∧ (match oe with | .dead => False | .var _ _ => m = n + j | .iter _ => m = n + j | .iterSame _ _ => m = n + j | .dfr => m = n + j | _ => srcOf sig (n + j) = .own m)) → m ∈ OE.srcs sig n ol
  | [], n, j, m, h => by obtain ⟨oe, h, _⟩ := h; cases h
  | oe :: l, n, 0, m, h => by
    obtain ⟨oe', h1, h2⟩ := h
    cases h1
    cases oe <;> simp only [Nat.add_zero] at h2
    all_goals simp [OE.srcs, h2]
  | oe :: l, n, j + 1, m, h => by
    have : m ∈ OE.srcs sig (n + 1) l := srcs_mem sig l (n + 1) j m (by rw [show n + 1 + j = n + (j + 1) by omega]; exact h)
    cases oe <;> simp only [OE.srcs]
    · exact this
    · split
      · exact List.mem_cons_of_mem _ this
      · exact this
    · split
      · exact List.mem_cons_of_mem _ this
      · exact this
    · exact List.mem_cons_of_mem _ this
    · exact List.mem_cons_of_mem _ this
    · exact List.mem_cons_of_mem _ this
    · exact List.mem_cons_of_mem _ this

def srcAt (sig : List (Nat × SV)) (n : Nat) (oe : OE) (m : Nat) : Prop := match oe with | .dead => False | .var _ _ => m = n | .iter _ => m = n | .iterSame _ _ => m = n | .dfr => m = n | _ => srcOf sig n = .own m

theorem srcs_inj (sig : List (Nat × SV)) : ∀ (ol : List OE) (n i j m : Nat) (a b : OE), nodupB (OE.srcs sig n ol) = true → ol[i]? = some a → ol[j]? = some b → srcAt sig (n + i) a m → srcAt sig (n + j) b m → i = j
  | [], _, _, _, _, _, _, _, h, _, _, _ => by cases h
  | oe :: l, n, i, j, m, a, b, hd, ha, hb, sa, sb => by
    have tail : nodupB (OE.srcs sig (n + 1) l) = true ∧ ∀ m, srcAt sig n oe m → m ∉ OE.srcs sig (n + 1) l := by
      cases oe <;> simp only [OE.srcs] at hd
      · exact ⟨hd, fun m h => h.elim⟩
      · split at hd
        · rename_i m' hm'
          simp only [nodupB, Bool.and_eq_true, Bool.not_eq_true', List.contains_eq_mem, decide_eq_false_iff_not] at hd
          exact ⟨hd.2, fun m h => by
            have h : srcOf sig n = .own m := h
            rw [hm'] at h; cases h; exact hd.1⟩
        · rename_i hno
          exact ⟨hd, fun m h => absurd h (hno m)⟩
      · split at hd
        · rename_i m' hm'
          simp only [nodupB, Bool.and_eq_true, Bool.not_eq_true', List.contains_eq_mem, decide_eq_false_iff_not] at hd
          exact ⟨hd.2, fun m h => by
            have h : srcOf sig n = .own m := h
            rw [hm'] at h; cases h; exact hd.1⟩
        · rename_i hno
          exact ⟨hd, fun m h => absurd h (hno m)⟩
      all_goals
        simp only [nodupB, Bool.and_eq_true, Bool.not_eq_true', List.contains_eq_mem, decide_eq_false_iff_not] at hd
        exact ⟨hd.2, fun m h => by
          have h : m = n := h
          rw [h]; exact hd.1⟩
    have mem : ∀ (j : Nat) (b : OE), l[j]? = some b → srcAt sig (n + (j + 1)) b m → m ∈ OE.srcs sig (n + 1) l := by
      intro j b hb sb
      refine srcs_mem sig l (n + 1) j m ⟨b, hb, ?_⟩
      rw [show n + 1 + j = n + (j + 1) by omega]
      unfold srcAt at sb
      cases b <;> exact sb
    cases i with
    | zero =>
      cases j with
      | zero => rfl
      | succ j =>
        cases ha
        exact absurd (mem j b hb sb) (tail.2 m sa)
    | succ i =>
      cases j with
      | zero =>
        cases hb
        exact absurd (mem i a ha sa) (tail.2 m sb)
      | succ j =>
        have := srcs_inj sig l (n + 1) i j m a b tail.1 ha hb (by rw [show n + 1 + i = n + (i + 1) by omega]; exact sa) (by rw [show n + 1 + j = n + (j + 1) by omega]; exact sb)
        omega

theorem OE_mk_get : ∀ (ol : List OE) (z : OE.Tup ol), (OE.mk ol z).length = ol.length
  | [], _ => rfl
  | .dead :: l, z => by simp [OE.mk, OE_mk_get l z]
  | .row _ _ :: l, z => by simp [OE.mk, OE_mk_get l z.2]
  | .rowSame _ _ _ :: l, z => by simp [OE.mk, OE_mk_get l z]
  | .var _ _ :: l, z => by simp [OE.mk, OE_mk_get l z.2]
  | .iter _ :: l, z => by simp [OE.mk, OE_mk_get l z.2]
  | .iterSame _ _ :: l, z => by simp [OE.mk, OE_mk_get l z]
  | .dfr :: l, z => by simp [OE.mk, OE_mk_get l z]

theorem mk_shape : ∀ (ol : List OE) (z : OE.Tup ol) (j : Nat) (ob : Ob), (OE.mk ol z)[j]? = some (some ob) → ∃ oe, ol[j]? = some oe ∧ (match ob with | .row _ _ _ => (match oe with | .row _ _ | .rowSame _ _ _ => True | _ => False) | .var _ _ => (match oe with | .var _ _ => True | _ => False) | .siter _ _ => (match oe with | .iter _ | .iterSame _ _ => True | _ => False) | .dfr => (match oe with | .dfr => True | _ => False))
  | [], _, _, _, h => by cases h
  | .dead :: l, z, 0, ob, h => by cases h
  | .row _ _ :: l, z, 0, ob, h => by cases h; exact ⟨_, rfl, trivial⟩
  | .rowSame _ _ _ :: l, z, 0, ob, h => by cases h; exact ⟨_, rfl, trivial⟩
  | .var _ _ :: l, z, 0, ob, h => by cases h; exact ⟨_, rfl, trivial⟩
  | .iter _ :: l, z, 0, ob, h => by cases h; exact ⟨_, rfl, trivial⟩
  | .iterSame _ _ :: l, z, 0, ob, h => by cases h; exact ⟨_, rfl, trivial⟩
  | .dfr :: l, z, 0, ob, h => by cases h; exact ⟨_, rfl, trivial⟩
  | .dead :: l, z, j + 1, ob, h => mk_shape l z j ob h
  | .row _ _ :: l, z, j + 1, ob, h => mk_shape l z.2 j ob h
  | .rowSame _ _ _ :: l, z, j + 1, ob, h => mk_shape l z j ob h
  | .var _ _ :: l, z, j + 1, ob, h => mk_shape l z.2 j ob h
  | .iter _ :: l, z, j + 1, ob, h => mk_shape l z.2 j ob h
  | .iterSame _ _ :: l, z, j + 1, ob, h => mk_shape l z j ob h
  | .dfr :: l, z, j + 1, ob, h => mk_shape l z j ob h

theorem row_wf {C : Cx} {e : Nat} {k : Kd} {xs : List k.T} {v : Value} (h : (Ob.row e k xs).rel C v) : Kd.wf (.sl k) xs := by
  obtain ⟨A, c, _, h1, h2, h3, h4⟩ := row_rel h
  refine ⟨by omega, fun x hx => ?_⟩
  cases A with
  | none => have := (h3 rfl).2; subst this; cases hx
  | some ad =>
    obtain ⟨_, _, _, h5, _⟩ := h4 ad rfl
    obtain ⟨i, hi⟩ := List.mem_iff_getElem?.1 hx
    obtain ⟨ecs, hr, _⟩ := h5 i x hi
    exact hr.wf

theorem OE_wf (sig : List (Nat × SV)) : ∀ {ol : List OE} {n : Nat} {o : List Prop} {z : OE.Tup ol}, OE.fit st sig n ol = some (o, z) → (∀ p ∈ o, p) →
    (∀ (j : Nat) (e : Nat) (k : Kd) (xs : List k.T), (OE.mk ol z)[j]? = some (some (.row e k xs)) → Kd.wf (.sl k) xs) →
    (∀ N p q y, PE.fit st (cellLook st N) p = some (q, y) → (∀ x ∈ q, x) → (∀ m ∈ PE.names p, m ∈ OE.allNames ol) → (∀ m ∈ PE.taken (cellLook st N) p, m ∈ OE.allTaken st n ol) → (∀ x ∈ PE.sig (cellLook st N) p, x ∈ OE.sig st n ol) →
      (∃ t cs, st.hp[N]? = some (some (.var t cs))) → PE.wf p y) → OE.wf ol z
  | [], _, _, _, _, _, _, _ => trivial
  | .dead :: l, n, o, z, hf, ho, hr, hv => by
    simp only [OE.fit] at hf
    split at hf
    · rename_i o' z' e1
      cases hf
      exact OE_wf sig (ol := l) e1 ho (fun j e k xs hj => hr (j + 1) e k xs hj) (fun N p q y h1 h2 h3 h4 h5 => hv N p q y h1 h2 (fun m hm => h3 m hm) (fun m hm => h4 m hm) (fun m hm => h5 m hm))
    · cases hf
  | .row e k :: l, n, o, z, hf, ho, hr, hv => by
    simp only [OE.fit] at hf
    split at hf
    · rename_i o' z' e1
      have fin : ∀ (xs : List k.T), o' = o → z = (xs, z') → OE.wf (.row e k :: l) z := by
        intro xs ho' hz
        subst hz
        exact ⟨hr 0 e k xs rfl, OE_wf sig (ol := l) e1 (by rw [ho']; exact ho) (fun j e k xs hj => hr (j + 1) e k xs hj) (fun N p q y h1 h2 h3 h4 h5 => hv N p q y h1 h2 (fun m hm => h3 m hm) (fun m hm => h4 m hm) (fun m hm => h5 m hm))⟩
      split at hf
      · split at hf
        · split at hf
          · split at hf
            · rename_i hk _
              subst hk
              cases hf
              exact fin _ rfl rfl
            · cases hf
          · cases hf
        · cases hf
      · split at hf
        · cases hf; exact fin _ rfl rfl
        · cases hf
      · cases hf
    · cases hf
  | .rowSame e k xs :: l, n, o, z, hf, ho, hr, hv => by
    simp only [OE.fit] at hf
    split at hf
    · rename_i o' z' e1
      have fin : (∀ p ∈ o', p) → z = z' → OE.wf (.rowSame e k xs :: l) z := by
        intro ho' hz
        subst hz
        exact OE_wf sig (ol := l) e1 ho' (fun j e k xs hj => hr (j + 1) e k xs hj) (fun N p q y h1 h2 h3 h4 h5 => hv N p q y h1 h2 (fun m hm => h3 m hm) (fun m hm => h4 m hm) (fun m hm => h5 m hm))
      split at hf
      · split at hf
        · split at hf
          · split at hf
            · rename_i hk _
              subst hk
              cases hf
              exact fin (fun p hp => ho p (List.mem_cons_of_mem _ hp)) rfl
            · cases hf
          · cases hf
        · cases hf
      · cases hf
    · cases hf
  | .var t p :: l, n, o, z, hf, ho, hr, hv => by
    simp only [OE.fit] at hf
    split at hf
    · rename_i o' z' t' cs e1 hob
      split at hf
      · split at hf
        · rename_i q y e2
          cases hf
          refine ⟨hv n p q y e2 (fun x hx => ho x (List.mem_append_left _ hx)) (fun m hm => by simp [OE.allNames, hm]) (fun m hm => by simp only [OE.allTaken]; exact List.mem_append_left _ hm) (fun x hx => by simp only [OE.sig]; exact List.mem_append_left _ hx) ⟨_, _, hob⟩, ?_⟩
          exact OE_wf sig (ol := l) e1 (fun p hp => ho p (List.mem_append_right _ hp)) (fun j e k xs hj => hr (j + 1) e k xs hj) (fun N p q y h1 h2 h3 h4 h5 => hv N p q y h1 h2 (fun m hm => by simp only [OE.allNames]; exact List.mem_append_right _ (h3 m hm))
            (fun m hm => by simp only [OE.allTaken]; exact List.mem_append_right _ (h4 m hm)) (fun x hx => by simp only [OE.sig]; exact List.mem_append_right _ (h5 x hx)))
        · cases hf
      · cases hf
    · cases hf

  | .iter t :: l, n, o, z, hf, ho, hr, hv => by
    simp only [OE.fit] at hf
    split at hf
    · rename_i o' z' t' pos e1 hob
      cases hf
      exact OE_wf sig (ol := l) e1 (fun p hp => ho p (by simp [hp])) (fun j e k xs hj => hr (j + 1) e k xs hj) (fun N p q y h1 h2 h3 h4 h5 => hv N p q y h1 h2 (fun m hm => h3 m hm) (fun m hm => h4 m hm) (fun m hm => h5 m hm))
    · cases hf
  | .iterSame t ps :: l, n, o, z, hf, ho, hr, hv => by
    simp only [OE.fit] at hf
    split at hf
    · rename_i o' z' t' pos e1 hob
      cases hf
      exact OE_wf sig (ol := l) e1 (fun p hp => ho p (by simp [hp])) (fun j e k xs hj => hr (j + 1) e k xs hj) (fun N p q y h1 h2 h3 h4 h5 => hv N p q y h1 h2 (fun m hm => h3 m hm) (fun m hm => h4 m hm) (fun m hm => h5 m hm))
    · cases hf
  | .dfr :: l, n, o, z, hf, ho, hr, hv => by
    simp only [OE.fit] at hf
    split at hf
    · rename_i o' z' e1 hob
      cases hf
      exact OE_wf sig (ol := l) e1 (fun p hp => ho p (by simp [hp])) (fun j e k xs hj => hr (j + 1) e k xs hj) (fun N p q y h1 h2 h3 h4 h5 => hv N p q y h1 h2 (fun m hm => h3 m hm) (fun m hm => h4 m hm) (fun m hm => h5 m hm))
    · cases hf

theorem df_fit {C C' : Cx} {ok : Nat → Prop} (hm : C.mv C' ok) : ∀ {l l' : List DE} {ds : List Deferred} {o : List Prop}, dfFit l l' = some o → (∀ p ∈ o, p) → (∀ n ∈ dfNames l, ok n) → DRel C l' ds → DRel C' l ds
  | [], l', ds, o, hf, _, _, hr => by
    cases l' with
    | nil => exact hr
    | cons s' l' => cases hf
  | .mark n :: l, l', ds, o, hf, ho, hn, hr => by
    cases l' with
    | nil => cases hf
    | cons s' l' =>
      cases s' <;> simp only [dfFit] at hf <;> try (cases hf; done)
      split at hf
      · rename_i e
        obtain ⟨h4, h5⟩ := hm.ok n (hn n (by simp [dfNames]))
        subst e
        obtain ⟨b, r, e, h1, h2, h3⟩ := hr
        exact ⟨b, r, e, h4, by rw [h5]; exact h2, df_fit hm hf ho (fun m hm' => hn m (by simp [dfNames, hm'])) h3⟩
      · cases hf
  | .fn f c :: l, l', ds, o, hf, ho, hn, hr => by
    cases l' with
    | nil => cases hf
    | cons s' l' =>
      cases s' <;> simp only [dfFit] at hf <;> try (cases hf; done)
      split at hf
      · rename_i e
        subst e
        split at hf
        · rename_i p q e1 e2
          cases hf
          obtain ⟨vs, r, e, h1, h2⟩ := hr
          exact ⟨vs, r, e, SV.rels.mv hm (fun m hm' => hn m (by simp [dfNames, hm'])) (sameSVs_rel e1 (fun x hx => ho x (List.mem_append_left _ hx)) h1), df_fit hm e2 (fun x hx => ho x (List.mem_append_right _ hx)) (fun m hm' => hn m (by simp [dfNames, hm'])) h2⟩
        · cases hf
      · cases hf

theorem stk_fit (h : StRel B ρ st a fs w) {C' : Cx} {ok : Nat → Prop} (hm : (cx B ρ st.hp w).mv C' ok) : ∀ {l l' : List (Slots × List DE)} {fs : List Act} {o : List Prop}, stkFit l l' = some o → (∀ p ∈ o, p) → (∀ n ∈ stkNames l, ok n) → StkRel (cx B ρ st.hp w) l' fs → StkRel C' l fs
  | [], l', fs, o, hf, _, _, hr => by
    cases l' with
    | nil => exact hr
    | cons s' l' => cases hf
  | s :: l, l', fs, o, hf, ho, hn, hr => by
    cases l' with
    | nil => cases hf
    | cons s' l' =>
      simp only [stkFit] at hf
      split at hf
      · rename_i p d q e1 ed e2
        cases hf
        obtain ⟨t, r, e, h1, hd1, h2⟩ := hr
        refine ⟨t, r, e, ⟨rfl, fun i sv hi => ?_⟩, df_fit hm ed (fun x hx => ho x (by simp [hx])) (fun n hn' => hn n (by simp only [stkNames, List.flatMap_cons]; simp [hn'])) hd1, stk_fit h hm e2 (fun x hx => ho x (by simp [hx])) (fun n hn' => hn n (by simp only [stkNames, List.flatMap_cons] at hn' ⊢; exact List.mem_append_right _ hn')) h2⟩
        have key : ∀ {s : Slots} {p : List Prop}, slFit s s'.1 = some p → (∀ x ∈ p, x) → (∀ n ∈ slNames s, ok n) → s.lookup i = some sv → i < t.tmps.size ∧ sv.rel C' (t.tmps.getD i undef) := by
          intro s
          induction s with
          | nil => intro p _ _ _ hl; cases hl
          | cons pr s ih =>
            obtain ⟨j, u⟩ := pr
            intro p hf ho hn hl
            simp only [slFit] at hf
            split at hf
            · rename_i s'' e3
              split at hf
              · rename_i p1 q1 e4 e5
                cases hf
                rw [lookup_cons] at hl
                split at hl
                · rename_i hij
                  cases hl
                  subst hij
                  obtain ⟨h3, h4⟩ := h1.2 i s'' e3
                  exact ⟨h3, SV.rel.mv hm (fun n hnn => hn n (by simp [slNames, SV.namesL, hnn])) (sameSV_rel e4 (fun x hx => ho x (List.mem_append_left _ hx)) h4)⟩
                · exact ih e5 (fun x hx => ho x (List.mem_append_right _ hx)) (fun n hnn => hn n (by simp only [slNames, List.map_cons, SV.namesL] at hnn ⊢; exact List.mem_append_right _ hnn)) hl
              · cases hf
            · cases hf
        exact key e1 (fun x hx => ho x (List.mem_append_left _ hx)) (fun n hnn => hn n (by simp only [stkNames, List.flatMap_cons]; simp [hnn])) hi
      · cases hf

theorem fitK_sound (h : StRel B ρ st a fs w) {pl : List PE} {ol : List OE} {stk0 : List (Slots × List DE)} {df0 : List DE} {ls0 : LS} {K : PE.Tup pl → OE.Tup ol → Prop} (hk : st.fitK pl ol stk0 df0 ls0 K) :
    ∃ ρ' y z, K y z ∧ PE.wf pl y ∧ OE.wf ol z ∧ StRel B ρ' (headSt st pl ol stk0 df0 ls0 y z) a fs w := by
  unfold St.fitK at hk
  split at hk
  · rename_i hb
    split at hk
    · rename_i o y o' z o'' dd e1 e2 e3 e4
      obtain ⟨ho, hk⟩ := conj_all hk
      obtain ⟨ho', hk⟩ := conj_all hk
      obtain ⟨ho'', hk⟩ := conj_all hk
      obtain ⟨hod, hk⟩ := conj_all hk
      unfold St.fitB at hb
      simp only [Bool.and_eq_true, List.all_eq_true, decide_eq_true_eq, Bool.not_eq_true', List.contains_eq_mem, decide_eq_false_iff_not, List.mem_append] at hb
      obtain ⟨⟨⟨⟨⟨⟨b1, b2⟩, b3⟩, b4⟩, b5⟩, b6⟩, b7⟩ := hb
      generalize hsig : PE.sig st.look pl ++ OE.sig st 0 ol = sig at *
      have hsigm : ∀ x, x ∈ PE.sig st.look pl ∨ x ∈ OE.sig st 0 ol → x ∈ sig := fun x hx => by rw [← hsig]; exact List.mem_append.2 hx
      have hlen := OE_mk_get ol z
      let ρ' : Nat → Value := handleOf ρ sig
      have get := OE_get (st := st) sig e2 ho' b2
      simp only [Nat.zero_add] at get
      -- where a live object's block comes from
      have srcBlk : ∀ n, live (OE.mk ol z) n → ∀ b, blk (ρ' n) = some b → ∃ m, m ∈ OE.srcs sig 0 ol ∧ live st.hp m ∧ blk (ρ m) = some b ∧ ∀ oe, ol[n]? = some oe → srcAt sig n oe m := by
        rintro n ⟨ob, hob⟩ b hbk
        obtain ⟨oe, hoe, hsh⟩ := mk_shape ol z n ob hob
        rcases get n ob hob with ⟨e, k, xs, rfl, ⟨m, h1, h2, h3⟩ | ⟨c, h1, h2, rfl⟩⟩ | ⟨t, p, y', cs, q, rfl, h2, h3, h4, h5, h6, h7, h8⟩ | ⟨hp, h2, h6, h7⟩
        · refine ⟨m, h3, ⟨_, h2⟩, ?_, fun oe' hoe' => ?_⟩
          · have : ρ' n = ρ m := by show handleOf ρ sig n = _; unfold handleOf; rw [h1]
            rw [← this]; exact hbk
          · rw [hoe] at hoe'; cases hoe'
            cases oe <;> simp only at hsh <;> first | exact h1 | exact hsh.elim
        · have : ρ' n = c := by show handleOf ρ sig n = _; unfold handleOf; rw [h1]
          rw [this, nilSlice_eq h2] at hbk
          cases hbk
        · refine ⟨n, h7, ⟨_, h2⟩, ?_, fun oe' hoe' => ?_⟩
          · have : ρ' n = ρ n := by show handleOf ρ sig n = _; unfold handleOf; rw [h6]
            rw [← this]; exact hbk
          · rw [hoe] at hoe'; cases hoe'
            cases oe <;> simp only at hsh <;> first | rfl | exact hsh.elim
        · refine ⟨n, h7, ⟨_, h2⟩, ?_, fun oe' hoe' => ?_⟩
          · have : ρ' n = ρ n := by show handleOf ρ sig n = _; unfold handleOf; rw [h6]
            rw [← this]; exact hbk
          · rw [hoe] at hoe'; cases hoe'
            cases ob <;> simp only [isPlain, Bool.false_eq_true] at hp <;> cases oe <;> simp only at hsh <;> first | rfl | exact hsh.elim
      have f : FitCx B ρ st w (cx B ρ' (OE.mk ol z) w) sig (OE.srcs sig 0 ol) := ⟨rfl, fun _ => rfl, fun b hF => by
        rcases hF with hF | ⟨n, hn, hbk⟩
        · exact .inl hF
        · obtain ⟨m, h1, h2, h3, _⟩ := srcBlk n hn b hbk
          exact .inr ⟨m, h1, h2, h3⟩, rfl⟩
      have hN : (cx B ρ' (OE.mk ol z) w).N = ol.length := hlen
      have mv := f.mv
      have okn : ∀ n, okSrc st sig ol.length n = true → okSrc st sig (cx B ρ' (OE.mk ol z) w).N n = true := fun n hn => by rw [hN]; exact hn
      have sigOk : ∀ p, p ∈ sig → p.1 < (cx B ρ' (OE.mk ol z) w).N ∧ sameSrc (srcOf sig p.1) p.2 = true := fun p hp => by rw [hN]; exact b3 p (by rw [← hsig] at hp; exact List.mem_append.1 hp)
      have slots : ∀ i, (st.look i).rel (cx B ρ st.hp w) (a.tmps.getD i undef) := fun i => by
        unfold St.look
        split
        · rename_i s hs; exact (h.s.2 i s hs).2
        · trivial
      obtain ⟨w1, w2⟩ := PE_fit h f slots e1 ho (fun n hn => okn n (b4 n (.inl (.inl hn)))) (fun m hm => b5 m (.inl hm)) (fun p hp => sigOk p (hsigm p (.inl hp)))
      -- cells of variables
      have cells : ∀ (n t : Nat) (cs : List SV) (vs : List Value), st.hp[n]? = some (some (.var t cs)) → SV.rels (cx B ρ st.hp w) cs vs → ∀ {p : List PE} {q : List Prop} {y' : PE.Tup p}, PE.fit st (cellLook st n) p = some (q, y') → (∀ x ∈ q, x) →
          (∀ m ∈ PE.names p, m ∈ OE.allNames ol) → (∀ m ∈ PE.taken (cellLook st n) p, m ∈ OE.allTaken st 0 ol) → (∀ x ∈ PE.sig (cellLook st n) p, x ∈ OE.sig st 0 ol) →
          PE.wf p y' ∧ ∀ i s, (i, s) ∈ PE.mk p y' → s.rel (cx B ρ' (OE.mk ol z) w) (vs.getD i undef) := by
        intro n t cs vs hob hvs p q y' hpf hq hnm htk hsg
        refine PE_fit h f (val := fun i => vs.getD i undef) (fun i => ?_) hpf hq (fun n hn => okn n (b4 n (.inl (.inr (hnm n hn))))) (fun m hm => b5 m (.inr (htk m hm))) (fun p hp => sigOk p (hsigm p (.inr (hsg p hp))))
        unfold cellLook
        rw [hob]
        simp only
        split
        · rename_i s hs
          obtain ⟨v, h1, h2⟩ := rels_get hvs hs
          rw [List.getD_eq_getElem?_getD, h1]; exact h2
        · trivial
      have objs : ∀ (n : Nat) (ob : Ob), (OE.mk ol z)[n]? = some (some ob) → ob.rel (cx B ρ' (OE.mk ol z) w) (ρ' n) := by
        intro n ob hob
        rcases get n ob hob with ⟨e, k, xs, rfl, ⟨m, h1, h2, h3⟩ | ⟨c, h1, h2, rfl⟩⟩ | ⟨t, p, y', cs, q, rfl, h2, h3, h4, h5, h6, h7, h8, h9, h10, h11⟩ | ⟨hp, h2, h6, h7⟩
        · have hr : ρ' n = ρ m := by show handleOf ρ sig n = _; unfold handleOf; rw [h1]
          rw [hr]
          obtain ⟨inner, h4, h5⟩ := h.h.obj m _ h2
          exact ⟨inner, h4, fun i x hx => (h5 i x hx).mono mv.F⟩
        · have hr : ρ' n = c := by show handleOf ρ sig n = _; unfold handleOf; rw [h1]
          rw [hr, nilSlice_eq h2]
          exact ⟨[], .inl (World.ownsRow_nil _ _ _ _), fun i x hx => by cases hx⟩
        · have hr : ρ' n = ρ n := by show handleOf ρ sig n = _; unfold handleOf; rw [h6]
          rw [hr]
          obtain ⟨b, vs, h12, h13, h14⟩ := h.h.obj n _ h2
          refine ⟨b, vs, h12, h13, ?_⟩
          obtain ⟨_, h15⟩ := cells n t cs vs h2 h14 h4 h5 h9 h10 h11
          have hvl := rels_length h14
          -- one by one
          have hpl := mk_places p y'
          rw [h8] at hpl
          have : ∀ (l : Slots) (k : Nat) (us : List Value), l.map (·.1) = List.range' k l.length → us.length = l.length → (∀ i, us[i]? = vs[k + i]?) → (∀ i s, (i, s) ∈ l → s.rel (cx B ρ' (OE.mk ol z) w) (vs.getD i undef)) → SV.rels (cx B ρ' (OE.mk ol z) w) (l.map (·.2)) us := by
            intro l
            induction l with
            | nil => intro k us _ hl _ _; exact List.eq_nil_of_length_eq_zero hl
            | cons pr l ih =>
              obtain ⟨i, s⟩ := pr
              intro k us hm hl hu hs
              cases us with
              | nil => simp at hl
              | cons u us =>
                simp only [List.map_cons, List.length_cons, List.range'_succ, List.cons.injEq] at hm
                obtain ⟨rfl, hm⟩ := hm
                have h0 : some u = vs[i]? := by simpa using hu 0
                refine ⟨u, us, rfl, ?_, ih (i + 1) us hm (by simpa using hl) (fun j => by
                  have := hu (j + 1)
                  simp only [List.getElem?_cons_succ] at this
                  rw [this]; congr 1; omega) (fun j t hj => hs j t (List.mem_cons_of_mem _ hj))⟩
                have := hs i s List.mem_cons_self
                rw [List.getD_eq_getElem?_getD, ← h0] at this
                exact this
          have hl2 : (PE.mk p y').length = p.length := by have := congrArg List.length hpl; simpa using this
          refine this _ 0 vs (by rw [hpl, hl2, List.range_eq_range']) (by rw [hvl, h3, hl2]) (fun i => by simp) h15
        · have hr : ρ' n = ρ n := by show handleOf ρ sig n = _; unfold handleOf; rw [h6]
          rw [hr]
          have := h.h.obj n _ h2
          cases ob <;> simp only [isPlain, Bool.false_eq_true] at hp <;> exact this
      refine ⟨ρ', y, z, hk, w1, ?_, ⟨⟨(LS.eqb_eq b7) ▸ h.h.kept, objs, fun n m b hn hm hnb hmb => ?_, fun n b hn hnb => ?_, (LS.eqb_eq b7) ▸ h.h.fb⟩, ⟨h.s.1, fun i s hs => ?_⟩, (fun t b hb => by cases hb), stk_fit h mv e3 ho'' (fun n hn => okn n (b4 n (.inr (.inr hn)))) h.k, df_fit mv e4 hod (fun n hn => okn n (b4 n (.inr (.inl hn)))) h.d, h.g⟩⟩
      · refine OE_wf sig e2 ho' (fun j e k xs hj => row_wf (objs j _ hj)) (fun N p q y' h1 h2 h3 h4 h5 h6 => ?_)
        obtain ⟨t, cs, hob⟩ := h6
        obtain ⟨b, vs, _, _, h14⟩ := h.h.obj N _ hob
        exact (cells N t cs vs hob h14 h1 h2 h3 h4 h5).1
      · obtain ⟨m1, _, h2, h3, h4⟩ := srcBlk n hn b hnb
        obtain ⟨m2, _, h5, h6, h7⟩ := srcBlk m hm b hmb
        have := h.h.sep m1 m2 b h2 h5 h3 h6
        subst this
        obtain ⟨ob1, ho1⟩ := hn
        obtain ⟨ob2, ho2⟩ := hm
        obtain ⟨oe1, hoe1, _⟩ := mk_shape ol z n ob1 ho1
        obtain ⟨oe2, hoe2, _⟩ := mk_shape ol z m ob2 ho2
        exact srcs_inj sig ol 0 n m m1 oe1 oe2 b1 hoe1 hoe2 (by simpa using h4 oe1 hoe1) (by simpa using h7 oe2 hoe2)
      · obtain ⟨m1, _, h2, h3, _⟩ := srcBlk n hn b hnb
        have := h.h.own m1 b h2 h3
        rw [LS.eqb_eq b7] at this
        exact this
      · have hm := mk_lookup hs
        refine ⟨b6 i ?_, w2 i s hm⟩
        rw [← mk_places pl y]
        exact List.mem_map.2 ⟨(i, s), hm, rfl⟩
    · exact hk.elim
  · exact hk.elim
end
end Go.Vc
