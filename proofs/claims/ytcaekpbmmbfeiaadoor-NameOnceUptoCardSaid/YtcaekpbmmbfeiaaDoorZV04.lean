/- Texts of a verified walk, led together: Fit, Rnd, Run, Fn, Con, Join. -/
import Derived.Test.YtcaekpbmmbfeiaaDoorZV03
set_option linter.unusedVariables false
set_option linter.unusedSimpArgs false
section
/- A state that fits a loop's head is one. -/
namespace Go.Vc
open Go.RowKit

section
variable {B : Base} {ρ : Nat → Value} {st : St} {a : Act} {fs : List Act} {w : World}

theorem as_wf {w : World} {F : Nat → Prop} {k : Kd} {x : k.T} {v : Value} (h : VRep w F k x v) : k.wf x := by
  obtain ⟨cs, h1, _⟩ := h
  exact h1.wf

/-- Where the head's handles come from. -/
def handleOf (ρ : Nat → Value) (sig : List (Nat × SV)) (n : Nat) : Value :=
  match srcOf sig n with
  | .own m => ρ m
  | .cst c => c
  | _ => ρ n

structure FitCx (B : Base) (ρ : Nat → Value) (st : St) (w : World) (C' : Cx) (sig : List (Nat × SV)) (srcs : List Nat) : Prop where
  w : C'.w = w
  rho : ∀ n, C'.ρ n = handleOf ρ sig n
  F : ∀ b, C'.F b → B.Fb b ∨ ∃ m, m ∈ srcs ∧ live st.hp m ∧ blk (ρ m) = some b
  lp : C'.lp = B.lp

theorem FitCx.mv {C' : Cx} {sig : List (Nat × SV)} {srcs : List Nat} (f : FitCx B ρ st w C' sig srcs) : (cx B ρ st.hp w).mv C' (fun n => okSrc st sig C'.N n = true) where
  w := f.w
  F b _ hb := by
    rcases f.F b hb with h | ⟨m, _, h1, h2⟩
    · exact .inl h
    · exact .inr ⟨m, h1, h2⟩
  ok n hn := by
    simp only [okSrc, Bool.and_eq_true, decide_eq_true_eq] at hn
    refine ⟨hn.1.1, ?_⟩
    rw [f.rho]
    unfold handleOf
    have := hn.2
    split at this
    · rename_i m hm
      rw [hm]
      simp only [beq_iff_eq] at this
      rw [this]
    · cases this
  lp := f.lp

theorem asData_rel (h : StRel B ρ st a fs w) {C' : Cx} {sig : List (Nat × SV)} {srcs : List Nat} (f : FitCx B ρ st w C' sig srcs) {k : Kd} {s : SV} {x : k.T} {v : Value} (hx : st.asData k s = some x)
    (hs : s.rel (cx B ρ st.hp w) v) (ht : ∀ m ∈ s.names, m ∉ srcs) : VRep C'.w C'.F k x v := by
  unfold St.asData at hx
  split at hx
  · rename_i y hy
    cases hx
    exact VRep.mv f.mv (as_rel hy hs)
  · rename_i hnone
    clear hnone
    split at hx
    · split at hx
      · rename_i k' xs hl
        split at hx
        · rename_i e
          subst e
          cases hx
          obtain ⟨A, c, h1, h2, h3, h4⟩ := list_rel h hs hl
          refine VRep_sl.2 ⟨A, c, h1, h2, h3, fun hne => ?_⟩
          obtain ⟨ad, rfl, h5, h6⟩ := h4 hne
          have hF : ¬ C'.F ad.block := by
            intro hb
            -- whose block is it?
            have key : ∀ n, n ∈ s.names → live st.hp n → blk (ρ n) = some ad.block → False := by
              intro n hn hl' hbn
              rcases f.F _ hb with hb | ⟨m, hm1, hm2, hm3⟩
              · exact (h.h.own n _ hl' hbn).2 hb
              · have := h.h.sep m n _ hm2 hl' hm3 hbn
                subst this
                exact ht _ hn hm1
            cases s <;> simp only [St.list] at hl <;> try (cases hl; done)
            case dat k0 x0 =>
              cases k0 <;> simp only at hl <;> try (cases hl; done)
              cases hl
              obtain ⟨A', c', e1, _, _, e2⟩ := VRep_sl.1 hs
              rw [h1] at e1
              simp only [Value.slice.injEq] at e1
              obtain ⟨ad', e3, _, e4, _⟩ := e2 hne
              rw [← e1.1] at e3
              cases e3
              rcases f.F _ hb with hb | ⟨m, _, hm2, hm3⟩
              · exact e4 (.inl hb)
              · exact e4 (.inr ⟨m, hm2, hm3⟩)
            case own n =>
              obtain ⟨e', he⟩ := St.row_some hl
              refine key n (by simp [SV.names]) ⟨_, he⟩ ?_
              rw [← show v = ρ n from hs.2.1, h1]; rfl
            case sub n k0 off len =>
              split at hl
              · rename_i k'' xs' hrw
                split at hl
                · obtain ⟨e', he⟩ := St.row_some hrw
                  refine key n (by simp [SV.names]) ⟨_, he⟩ ?_
                  obtain ⟨_, A0, m, cap, A', cc, e2, e3, e4, _, _, e5⟩ := hs
                  simp only at e2
                  rw [h1] at e3
                  simp only [Value.slice.injEq] at e3
                  rcases e5 with e5 | e5
                  · rw [e2]
                    rw [← e3.1] at e5
                    cases A0 with
                    | none => cases e5
                    | some ad0 => simp only [Option.map_some, Option.some.injEq] at e5; simp [blk, e5, add_block]
                  · exfalso
                    have hpos : 0 < xs.length := List.length_pos_iff.2 hne
                    omega
                · cases hl
              · cases hl
          refine ⟨ad, rfl, by rw [f.w]; exact h5, hF, ?_⟩
          have hm := f.mv.F
          rw [f.w]
          exact h6.imp (fun x _ cs hr => hr.mono (fun b hb hc => hm b hb hc)) (fun _ _ hu => hu)
        · cases hx
      · cases hx
    · cases hx

theorem PE_fit (h : StRel B ρ st a fs w) {C' : Cx} {sig : List (Nat × SV)} {srcs : List Nat} (f : FitCx B ρ st w C' sig srcs) {look : Nat → SV} {val : Nat → Value} (hlook : ∀ i, (look i).rel (cx B ρ st.hp w) (val i)) :
    ∀ {pl : List PE} {o : List Prop} {y : PE.Tup pl}, PE.fit st look pl = some (o, y) → (∀ p ∈ o, p) → (∀ n ∈ PE.names pl, okSrc st sig C'.N n = true) → (∀ m ∈ PE.taken look pl, m ∉ srcs) →
      (∀ p ∈ PE.sig look pl, p.1 < C'.N ∧ sameSrc (srcOf sig p.1) p.2 = true) → PE.wf pl y ∧ ∀ i s, (i, s) ∈ PE.mk pl y → s.rel C' (val i)
  | [], o, y, hf, ho, _, _, _ => ⟨trivial, fun i s hm => by cases hm⟩
  | .var i k :: l, o, y, hf, ho, hn, ht, hs => by
    simp only [PE.fit] at hf
    split at hf
    · rename_i x o' y' e1 e2
      cases hf
      obtain ⟨h1, h2⟩ := PE_fit h f hlook e2 ho (fun n hm => hn n hm) (fun m hm => ht m (by simp [PE.taken, hm])) (fun p hp => hs p hp)
      have h3 := asData_rel h f e1 (hlook i) (fun m hm => ht m (by simp [PE.taken, hm]))
      refine ⟨⟨as_wf h3, h1⟩, fun j s hm => ?_⟩
      rcases List.mem_cons.1 hm with e | hm
      · cases e; exact h3
      · exact h2 j s hm
    · cases hf
  | .own i n :: l, o, y, hf, ho, hn, ht, hs => by
    simp only [PE.fit] at hf
    split at hf
    · rename_i o' y' e2
      cases hf
      obtain ⟨h1, h2⟩ := PE_fit h f hlook e2 ho (fun n hm => hn n hm) (fun m hm => ht m hm) (fun p hp => hs p (by simp [PE.sig, hp]))
      refine ⟨h1, fun j s hm => ?_⟩
      rcases List.mem_cons.1 hm with e | hm
      · cases e
        obtain ⟨h3, h4⟩ := hs (n, look i) (by simp [PE.sig])
        have hl := hlook i
        refine ⟨h3, ?_⟩
        rw [f.rho]
        unfold handleOf
        unfold sameSrc at h4
        split at h4
        · rename_i m m' e3 e4
          simp only [beq_iff_eq] at h4
          rw [e3]
          dsimp only at e4
          rw [e4] at hl
          subst h4
          exact ⟨hl.2.1, hl.2.2⟩
        · rename_i c c' e3 e4
          simp only [Bool.and_eq_true] at h4
          rw [e3]
          dsimp only at e4
          rw [e4] at hl
          have hl : val i = c' := hl
          rw [hl, nilSlice_eq h4.2, nilSlice_eq h4.1]
          exact ⟨rfl, _, _, _, rfl⟩
        · cases h4
      · exact h2 j s hm
    · cases hf
  | .same i s0 :: l, o, y, hf, ho, hn, ht, hs => by
    simp only [PE.fit] at hf
    split at hf
    · rename_i p o' y' e1 e2
      cases hf
      obtain ⟨h1, h2⟩ := PE_fit h f hlook e2 (fun q hq => ho q (List.mem_append_right _ hq)) (fun n hm => hn n (by simp [PE.names, hm])) (fun m hm => ht m hm) (fun p hp => hs p hp)
      refine ⟨h1, fun j s hm => ?_⟩
      rcases List.mem_cons.1 hm with e | hm
      · cases e
        exact SV.rel.mv f.mv (fun n hm => hn n (by simp [PE.names, hm])) (sameSV_rel e1 (fun q hq => ho q (List.mem_append_left _ hq)) (hlook i))
      · exact h2 j s hm
    · cases hf

theorem mk_places : ∀ (pl : List PE) (y : PE.Tup pl), (PE.mk pl y).map (·.1) = PE.places pl
  | [], _ => rfl
  | .var i k :: l, y => by simp [PE.mk, PE.places, mk_places l y.2]
  | .own i n :: l, y => by simp [PE.mk, PE.places, mk_places l y]
  | .same i s :: l, y => by simp [PE.mk, PE.places, mk_places l y]

theorem mk_lookup {sl : Slots} {i : Nat} {s : SV} (h : sl.lookup i = some s) : (i, s) ∈ sl := by
  induction sl with
  | nil => cases h
  | cons p l ih =>
    obtain ⟨j, t⟩ := p
    rw [lookup_cons] at h
    split at h
    · rename_i e; cases h; subst e; exact List.mem_cons_self
    · exact List.mem_cons_of_mem _ (ih h)

def isPlain : Ob → Bool
  | .siter _ _ | .dfr => true
  | _ => false

/-- What an object at the head is. -/
theorem OE_get (sig : List (Nat × SV)) : ∀ {ol : List OE} {n : Nat} {o : List Prop} {z : OE.Tup ol}, OE.fit st sig n ol = some (o, z) → (∀ p ∈ o, p) → OE.varB sig n ol = true → ∀ j ob, (OE.mk ol z)[j]? = some (some ob) →
    (∃ e k xs, ob = .row e k xs ∧ ((∃ m, srcOf sig (n + j) = .own m ∧ st.hp[m]? = some (some (.row e k xs)) ∧ m ∈ OE.srcs sig n ol) ∨ (∃ c, srcOf sig (n + j) = .cst c ∧ nilSlice c = true ∧ xs = []))) ∨
    (∃ t p y cs q, ob = .var t ((PE.mk p y).map (·.2)) ∧ st.hp[n + j]? = some (some (.var t cs)) ∧ cs.length = p.length ∧ PE.fit st (cellLook st (n + j)) p = some (q, y) ∧ (∀ x ∈ q, x) ∧ srcOf sig (n + j) = .own (n + j) ∧
      n + j ∈ OE.srcs sig n ol ∧ PE.places p = List.range p.length ∧ (∀ m ∈ PE.names p, m ∈ OE.allNames ol) ∧ (∀ m ∈ PE.taken (cellLook st (n + j)) p, m ∈ OE.allTaken st n ol) ∧ (∀ x ∈ PE.sig (cellLook st (n + j)) p, x ∈ OE.sig st n ol)) ∨
    (isPlain ob = true ∧ st.hp[n + j]? = some (some ob) ∧ srcOf sig (n + j) = .own (n + j) ∧ n + j ∈ OE.srcs sig n ol)
  | [], n, o, z, hf, ho, hv, j, ob, hm => by cases hm
  | .dead :: l, n, o, z, hf, ho, hv, j, ob, hm => by
    simp only [OE.fit] at hf
    split at hf
    · rename_i o' z' e1
      cases hf
      cases j with
      | zero => cases hm
      | succ j =>
        have := OE_get sig e1 ho hv j ob hm
        rw [show n + 1 + j = n + (j + 1) by omega] at this
        exact this
    · cases hf
  | .row e k :: l, n, o, z, hf, ho, hv, j, ob, hm => by
    simp only [OE.fit] at hf
    split at hf
    · rename_i o' z' e1
      have lift : ∀ {z1 : OE.Tup l}, z1 = z' → o' = o → ∀ j, (OE.mk l z1)[j]? = some (some ob) → _ := fun {z1} hz1 ho' j hj => OE_get sig e1 (by rw [ho']; exact ho) hv j ob (by rw [← hz1]; exact hj)
      split at hf
      · rename_i m hsrc
        split at hf
        · rename_i e' k' xs' hob
          split at hf
          · rename_i hk
            subst hk
            split at hf
            · rename_i he
              subst he
              cases hf
              cases j with
              | zero =>
                cases hm
                exact .inl ⟨_, _, _, rfl, .inl ⟨m, hsrc, hob, by simp [OE.srcs, hsrc]⟩⟩
              | succ j =>
                have := lift rfl rfl j hm
                rw [show n + 1 + j = n + (j + 1) by omega] at this
                simp only [OE.srcs, hsrc, OE.sig, OE.allNames, OE.allTaken]
                rcases this with ⟨e, k, xs, h1, h2 | h2⟩ | h1 | ⟨h1, h2, h3, h4⟩
                · obtain ⟨m', h3, h4, h5⟩ := h2
                  exact .inl ⟨e, k, xs, h1, .inl ⟨m', h3, h4, List.mem_cons_of_mem _ h5⟩⟩
                · exact .inl ⟨e, k, xs, h1, .inr h2⟩
                · obtain ⟨t, p, y, cs, q, h2, h3, h4, h5, h6, h7, h8, h9⟩ := h1
                  exact .inr (.inl ⟨t, p, y, cs, q, h2, h3, h4, h5, h6, h7, List.mem_cons_of_mem _ h8, h9⟩)
                · exact .inr (.inr ⟨h1, h2, h3, List.mem_cons_of_mem _ h4⟩)
            · cases hf
          · cases hf
        · cases hf
      · rename_i c hsrc
        split at hf
        · rename_i hn
          cases hf
          cases j with
          | zero =>
            cases hm
            exact .inl ⟨_, _, _, rfl, .inr ⟨c, hsrc, hn, rfl⟩⟩
          | succ j =>
            have := lift rfl rfl j hm
            rw [show n + 1 + j = n + (j + 1) by omega] at this
            simp only [OE.srcs, hsrc, OE.sig, OE.allNames, OE.allTaken]
            exact this
        · cases hf
      · cases hf
    · cases hf
  | .rowSame e k xs :: l, n, o, z, hf, ho, hv, j, ob, hm => by
    simp only [OE.fit] at hf
    split at hf
    · rename_i o' z' e1
      split at hf
      · rename_i m hsrc
        split at hf
        · rename_i e' k' xs' hob
          split at hf
          · rename_i hk
            subst hk
            split at hf
            · rename_i he
              subst he
              cases hf
              have hxs : xs' = xs := ho _ (by simp [castL])
              cases j with
              | zero =>
                cases hm
                exact .inl ⟨_, _, _, rfl, .inl ⟨m, hsrc, by rw [← hxs]; exact hob, by simp [OE.srcs, hsrc]⟩⟩
              | succ j =>
                have := OE_get sig e1 (fun p hp => ho p (by simp [hp])) hv j ob hm
                rw [show n + 1 + j = n + (j + 1) by omega] at this
                simp only [OE.srcs, hsrc, OE.sig, OE.allNames, OE.allTaken]
                rcases this with ⟨e, k, xs, h1, h2 | h2⟩ | h1 | ⟨h1, h2, h3, h4⟩
                · obtain ⟨m', h3, h4, h5⟩ := h2
                  exact .inl ⟨e, k, xs, h1, .inl ⟨m', h3, h4, List.mem_cons_of_mem _ h5⟩⟩
                · exact .inl ⟨e, k, xs, h1, .inr h2⟩
                · obtain ⟨t, p, y, cs, q, h2, h3, h4, h5, h6, h7, h8, h9⟩ := h1
                  exact .inr (.inl ⟨t, p, y, cs, q, h2, h3, h4, h5, h6, h7, List.mem_cons_of_mem _ h8, h9⟩)
                · exact .inr (.inr ⟨h1, h2, h3, List.mem_cons_of_mem _ h4⟩)
            · cases hf
          · cases hf
        · cases hf
      · cases hf
    · cases hf
  | .var t p :: l, n, o, z, hf, ho, hv, j, ob, hm => by
    simp only [OE.fit] at hf
    split at hf
    · rename_i o' z' t' cs e1 hob
      split at hf
      · rename_i hc
        obtain ⟨rfl, hlen⟩ := hc
        split at hf
        · rename_i q y e2
          cases hf
          simp only [OE.varB, Bool.and_eq_true, beq_iff_eq] at hv
          obtain ⟨⟨hv1, hv2⟩, hv3⟩ := hv
          have hsrc : srcOf sig n = .own n := by
            unfold srcOf
            split at hv1
            · rename_i hnone; rw [hnone]
            · cases hv1
          cases j with
          | zero =>
            cases hm
            exact .inr (.inl ⟨_, p, y, cs, q, rfl, hob, hlen, e2, fun x hx => ho x (List.mem_append_left _ hx), hsrc, by simp [OE.srcs], hv2, fun m hm => by simp [OE.allNames, hm], fun m hm => by simp only [OE.allTaken]; exact List.mem_append_left _ hm, fun x hx => by simp only [OE.sig]; exact List.mem_append_left _ hx⟩)
          | succ j =>
            have := OE_get sig e1 (fun p hp => ho p (List.mem_append_right _ hp)) hv3 j ob hm
            rw [show n + 1 + j = n + (j + 1) by omega] at this
            rcases this with ⟨e, k, xs, h1, h2 | h2⟩ | h1 | ⟨h1, h2, h3, h4⟩
            · obtain ⟨m', h3, h4, h5⟩ := h2
              exact .inl ⟨e, k, xs, h1, .inl ⟨m', h3, h4, by simp only [OE.srcs]; exact List.mem_cons_of_mem _ h5⟩⟩
            · exact .inl ⟨e, k, xs, h1, .inr h2⟩
            · obtain ⟨t, p, y, cs, q, h2, h3, h4, h5, h6, h7, h8, h9, h10, h11, h12⟩ := h1
              exact .inr (.inl ⟨t, p, y, cs, q, h2, h3, h4, h5, h6, h7, by simp only [OE.srcs]; exact List.mem_cons_of_mem _ h8, h9, fun m hm => by simp only [OE.allNames]; exact List.mem_append_right _ (h10 m hm),
                fun m hm => by simp only [OE.allTaken]; exact List.mem_append_right _ (h11 m hm), fun x hx => by simp only [OE.sig]; exact List.mem_append_right _ (h12 x hx)⟩)
            · exact .inr (.inr ⟨h1, h2, h3, by simp only [OE.srcs]; exact List.mem_cons_of_mem _ h4⟩)
        · cases hf
      · cases hf
    · cases hf
  | .iter t :: l, n, o, z, hf, ho, hv, j, ob, hm => by
    simp only [OE.fit] at hf
    split at hf
    · rename_i o' z' t' pos e1 hob
      cases hf
      simp only [OE.varB, Bool.and_eq_true] at hv
      obtain ⟨hv1, hv3⟩ := hv
      have hsrc : srcOf sig n = .own n := by
        unfold srcOf
        split at hv1
        · rename_i hnone; rw [hnone]
        · cases hv1
      cases j with
      | zero =>
        cases hm
        have : t' = t := ho _ (by simp)
        rw [this] at hob
        exact .inr (.inr ⟨rfl, hob, hsrc, by simp [OE.srcs]⟩)
      | succ j =>
        have := OE_get sig e1 (fun p hp => ho p (by simp [hp])) hv3 j ob hm
        rw [show n + 1 + j = n + (j + 1) by omega] at this
        simp only [OE.srcs, OE.sig, OE.allNames, OE.allTaken]
        rcases this with ⟨e, k, xs, h1, h2 | h2⟩ | h1 | ⟨h1, h2, h3, h4⟩
        · obtain ⟨m', h3, h4, h5⟩ := h2
          exact .inl ⟨e, k, xs, h1, .inl ⟨m', h3, h4, List.mem_cons_of_mem _ h5⟩⟩
        · exact .inl ⟨e, k, xs, h1, .inr h2⟩
        · obtain ⟨t, p, y, cs, q, h2, h3, h4, h5, h6, h7, h8, h9⟩ := h1
          exact .inr (.inl ⟨t, p, y, cs, q, h2, h3, h4, h5, h6, h7, List.mem_cons_of_mem _ h8, h9⟩)
        · exact .inr (.inr ⟨h1, h2, h3, List.mem_cons_of_mem _ h4⟩)
    · cases hf
  | .iterSame t ps :: l, n, o, z, hf, ho, hv, j, ob, hm => by
    simp only [OE.fit] at hf
    split at hf
    · rename_i o' z' t' pos e1 hob
      cases hf
      simp only [OE.varB, Bool.and_eq_true] at hv
      obtain ⟨hv1, hv3⟩ := hv
      have hsrc : srcOf sig n = .own n := by
        unfold srcOf
        split at hv1
        · rename_i hnone; rw [hnone]
        · cases hv1
      cases j with
      | zero =>
        cases hm
        have h1 : t' = t := ho _ (by simp)
        have h2 : pos = ps := ho _ (by simp)
        rw [h1, h2] at hob
        exact .inr (.inr ⟨rfl, hob, hsrc, by simp [OE.srcs]⟩)
      | succ j =>
        have := OE_get sig e1 (fun p hp => ho p (by simp [hp])) hv3 j ob hm
        rw [show n + 1 + j = n + (j + 1) by omega] at this
        simp only [OE.srcs, OE.sig, OE.allNames, OE.allTaken]
        rcases this with ⟨e, k, xs, h1, h2 | h2⟩ | h1 | ⟨h1, h2, h3, h4⟩
        · obtain ⟨m', h3, h4, h5⟩ := h2
          exact .inl ⟨e, k, xs, h1, .inl ⟨m', h3, h4, List.mem_cons_of_mem _ h5⟩⟩
        · exact .inl ⟨e, k, xs, h1, .inr h2⟩
        · obtain ⟨t, p, y, cs, q, h2, h3, h4, h5, h6, h7, h8, h9⟩ := h1
          exact .inr (.inl ⟨t, p, y, cs, q, h2, h3, h4, h5, h6, h7, List.mem_cons_of_mem _ h8, h9⟩)
        · exact .inr (.inr ⟨h1, h2, h3, List.mem_cons_of_mem _ h4⟩)
    · cases hf
  | .dfr :: l, n, o, z, hf, ho, hv, j, ob, hm => by
    simp only [OE.fit] at hf
    split at hf
    · rename_i o' z' e1 hob
      cases hf
      simp only [OE.varB, Bool.and_eq_true] at hv
      obtain ⟨hv1, hv3⟩ := hv
      have hsrc : srcOf sig n = .own n := by
        unfold srcOf
        split at hv1
        · rename_i hnone; rw [hnone]
        · cases hv1
      cases j with
      | zero =>
        cases hm
        exact .inr (.inr ⟨rfl, hob, hsrc, by simp [OE.srcs]⟩)
      | succ j =>
        have := OE_get sig e1 (fun p hp => ho p (by simp [hp])) hv3 j ob hm
        rw [show n + 1 + j = n + (j + 1) by omega] at this
        simp only [OE.srcs, OE.sig, OE.allNames, OE.allTaken]
        rcases this with ⟨e, k, xs, h1, h2 | h2⟩ | h1 | ⟨h1, h2, h3, h4⟩
        · obtain ⟨m', h3, h4, h5⟩ := h2
          exact .inl ⟨e, k, xs, h1, .inl ⟨m', h3, h4, List.mem_cons_of_mem _ h5⟩⟩
        · exact .inl ⟨e, k, xs, h1, .inr h2⟩
        · obtain ⟨t, p, y, cs, q, h2, h3, h4, h5, h6, h7, h8, h9⟩ := h1
          exact .inr (.inl ⟨t, p, y, cs, q, h2, h3, h4, h5, h6, h7, List.mem_cons_of_mem _ h8, h9⟩)
        · exact .inr (.inr ⟨h1, h2, h3, List.mem_cons_of_mem _ h4⟩)
    · cases hf

/-- No two objects at the head come from one. -/
theorem srcs_mem (sig : List (Nat × SV)) : ∀ (ol : List OE) (n j : Nat) (m : Nat), (∃ oe, ol[j]? = some oe ∧ (match oe with | .dead => False | .var _ _ => m = n + j | .iter _ => m = n + j | .iterSame _ _ => m = n + j | .dfr => m = n + j | _ => srcOf sig (n + j) = .own m)) → m ∈ OE.srcs sig n ol
  | [], n, j, m, h => by obtain ⟨oe, h, _⟩ := h; cases h
  | oe :: l, n, 0, m, h => by
    obtain ⟨oe', h1, h2⟩ := h
    cases h1
    cases oe <;> simp only [Nat.add_zero] at h2
    all_goals simp [OE.srcs, h2]
  | oe :: l, n, j + 1, m, h => by
    have : m ∈ OE.srcs sig (n + 1) l := srcs_mem sig l (n + 1) j m (by rw [show n + 1 + j = n + (j + 1) by omega]; exact h)
    cases oe <;> simp only [OE.srcs]
    · exact this
    · split
      · exact List.mem_cons_of_mem _ this
      · exact this
    · split
      · exact List.mem_cons_of_mem _ this
      · exact this
    · exact List.mem_cons_of_mem _ this
    · exact List.mem_cons_of_mem _ this
    · exact List.mem_cons_of_mem _ this
    · exact List.mem_cons_of_mem _ this

def srcAt (sig : List (Nat × SV)) (n : Nat) (oe : OE) (m : Nat) : Prop := match oe with | .dead => False | .var _ _ => m = n | .iter _ => m = n | .iterSame _ _ => m = n | .dfr => m = n | _ => srcOf sig n = .own m

theorem srcs_inj (sig : List (Nat × SV)) : ∀ (ol : List OE) (n i j m : Nat) (a b : OE), nodupB (OE.srcs sig n ol) = true → ol[i]? = some a → ol[j]? = some b → srcAt sig (n + i) a m → srcAt sig (n + j) b m → i = j
  | [], _, _, _, _, _, _, _, h, _, _, _ => by cases h
  | oe :: l, n, i, j, m, a, b, hd, ha, hb, sa, sb => by
    have tail : nodupB (OE.srcs sig (n + 1) l) = true ∧ ∀ m, srcAt sig n oe m → m ∉ OE.srcs sig (n + 1) l := by
      cases oe <;> simp only [OE.srcs] at hd
      · exact ⟨hd, fun m h => h.elim⟩
      · split at hd
        · rename_i m' hm'
          simp only [nodupB, Bool.and_eq_true, Bool.not_eq_true', List.contains_eq_mem, decide_eq_false_iff_not] at hd
          exact ⟨hd.2, fun m h => by
            have h : srcOf sig n = .own m := h
            rw [hm'] at h; cases h; exact hd.1⟩
        · rename_i hno
          exact ⟨hd, fun m h => absurd h (hno m)⟩
      · split at hd
        · rename_i m' hm'
          simp only [nodupB, Bool.and_eq_true, Bool.not_eq_true', List.contains_eq_mem, decide_eq_false_iff_not] at hd
          exact ⟨hd.2, fun m h => by
            have h : srcOf sig n = .own m := h
            rw [hm'] at h; cases h; exact hd.1⟩
        · rename_i hno
          exact ⟨hd, fun m h => absurd h (hno m)⟩
      all_goals
        simp only [nodupB, Bool.and_eq_true, Bool.not_eq_true', List.contains_eq_mem, decide_eq_false_iff_not] at hd
        exact ⟨hd.2, fun m h => by
          have h : m = n := h
          rw [h]; exact hd.1⟩
    have mem : ∀ (j : Nat) (b : OE), l[j]? = some b → srcAt sig (n + (j + 1)) b m → m ∈ OE.srcs sig (n + 1) l := by
      intro j b hb sb
      refine srcs_mem sig l (n + 1) j m ⟨b, hb, ?_⟩
      rw [show n + 1 + j = n + (j + 1) by omega]
      unfold srcAt at sb
      cases b <;> exact sb
    cases i with
    | zero =>
      cases j with
      | zero => rfl
      | succ j =>
        cases ha
        exact absurd (mem j b hb sb) (tail.2 m sa)
    | succ i =>
      cases j with
      | zero =>
        cases hb
        exact absurd (mem i a ha sa) (tail.2 m sb)
      | succ j =>
        have := srcs_inj sig l (n + 1) i j m a b tail.1 ha hb (by rw [show n + 1 + i = n + (i + 1) by omega]; exact sa) (by rw [show n + 1 + j = n + (j + 1) by omega]; exact sb)
        omega

theorem OE_mk_get : ∀ (ol : List OE) (z : OE.Tup ol), (OE.mk ol z).length = ol.length
  | [], _ => rfl
  | .dead :: l, z => by simp [OE.mk, OE_mk_get l z]
  | .row _ _ :: l, z => by simp [OE.mk, OE_mk_get l z.2]
  | .rowSame _ _ _ :: l, z => by simp [OE.mk, OE_mk_get l z]
  | .var _ _ :: l, z => by simp [OE.mk, OE_mk_get l z.2]
  | .iter _ :: l, z => by simp [OE.mk, OE_mk_get l z.2]
  | .iterSame _ _ :: l, z => by simp [OE.mk, OE_mk_get l z]
  | .dfr :: l, z => by simp [OE.mk, OE_mk_get l z]

theorem mk_shape : ∀ (ol : List OE) (z : OE.Tup ol) (j : Nat) (ob : Ob), (OE.mk ol z)[j]? = some (some ob) → ∃ oe, ol[j]? = some oe ∧ (match ob with | .row _ _ _ => (match oe with | .row _ _ | .rowSame _ _ _ => True | _ => False) | .var _ _ => (match oe with | .var _ _ => True | _ => False) | .siter _ _ => (match oe with | .iter _ | .iterSame _ _ => True | _ => False) | .dfr => (match oe with | .dfr => True | _ => False))
  | [], _, _, _, h => by cases h
  | .dead :: l, z, 0, ob, h => by cases h
  | .row _ _ :: l, z, 0, ob, h => by cases h; exact ⟨_, rfl, trivial⟩
  | .rowSame _ _ _ :: l, z, 0, ob, h => by cases h; exact ⟨_, rfl, trivial⟩
  | .var _ _ :: l, z, 0, ob, h => by cases h; exact ⟨_, rfl, trivial⟩
  | .iter _ :: l, z, 0, ob, h => by cases h; exact ⟨_, rfl, trivial⟩
  | .iterSame _ _ :: l, z, 0, ob, h => by cases h; exact ⟨_, rfl, trivial⟩
  | .dfr :: l, z, 0, ob, h => by cases h; exact ⟨_, rfl, trivial⟩
  | .dead :: l, z, j + 1, ob, h => mk_shape l z j ob h
  | .row _ _ :: l, z, j + 1, ob, h => mk_shape l z.2 j ob h
  | .rowSame _ _ _ :: l, z, j + 1, ob, h => mk_shape l z j ob h
  | .var _ _ :: l, z, j + 1, ob, h => mk_shape l z.2 j ob h
  | .iter _ :: l, z, j + 1, ob, h => mk_shape l z.2 j ob h
  | .iterSame _ _ :: l, z, j + 1, ob, h => mk_shape l z j ob h
  | .dfr :: l, z, j + 1, ob, h => mk_shape l z j ob h

theorem row_wf {C : Cx} {e : Nat} {k : Kd} {xs : List k.T} {v : Value} (h : (Ob.row e k xs).rel C v) : Kd.wf (.sl k) xs := by
  obtain ⟨A, c, _, h1, h2, h3, h4⟩ := row_rel h
  refine ⟨by omega, fun x hx => ?_⟩
  cases A with
  | none => have := (h3 rfl).2; subst this; cases hx
  | some ad =>
    obtain ⟨_, _, _, h5, _⟩ := h4 ad rfl
    obtain ⟨i, hi⟩ := List.mem_iff_getElem?.1 hx
    obtain ⟨ecs, hr, _⟩ := h5 i x hi
    exact hr.wf

theorem OE_wf (sig : List (Nat × SV)) : ∀ {ol : List OE} {n : Nat} {o : List Prop} {z : OE.Tup ol}, OE.fit st sig n ol = some (o, z) → (∀ p ∈ o, p) →
    (∀ (j : Nat) (e : Nat) (k : Kd) (xs : List k.T), (OE.mk ol z)[j]? = some (some (.row e k xs)) → Kd.wf (.sl k) xs) →
    (∀ N p q y, PE.fit st (cellLook st N) p = some (q, y) → (∀ x ∈ q, x) → (∀ m ∈ PE.names p, m ∈ OE.allNames ol) → (∀ m ∈ PE.taken (cellLook st N) p, m ∈ OE.allTaken st n ol) → (∀ x ∈ PE.sig (cellLook st N) p, x ∈ OE.sig st n ol) →
      (∃ t cs, st.hp[N]? = some (some (.var t cs))) → PE.wf p y) → OE.wf ol z
  | [], _, _, _, _, _, _, _ => trivial
  | .dead :: l, n, o, z, hf, ho, hr, hv => by
    simp only [OE.fit] at hf
    split at hf
    · rename_i o' z' e1
      cases hf
      exact OE_wf sig (ol := l) e1 ho (fun j e k xs hj => hr (j + 1) e k xs hj) (fun N p q y h1 h2 h3 h4 h5 => hv N p q y h1 h2 (fun m hm => h3 m hm) (fun m hm => h4 m hm) (fun m hm => h5 m hm))
    · cases hf
  | .row e k :: l, n, o, z, hf, ho, hr, hv => by
    simp only [OE.fit] at hf
    split at hf
    · rename_i o' z' e1
      have fin : ∀ (xs : List k.T), o' = o → z = (xs, z') → OE.wf (.row e k :: l) z := by
        intro xs ho' hz
        subst hz
        exact ⟨hr 0 e k xs rfl, OE_wf sig (ol := l) e1 (by rw [ho']; exact ho) (fun j e k xs hj => hr (j + 1) e k xs hj) (fun N p q y h1 h2 h3 h4 h5 => hv N p q y h1 h2 (fun m hm => h3 m hm) (fun m hm => h4 m hm) (fun m hm => h5 m hm))⟩
      split at hf
      · split at hf
        · split at hf
          · split at hf
            · rename_i hk _
              subst hk
              cases hf
              exact fin _ rfl rfl
            · cases hf
          · cases hf
        · cases hf
      · split at hf
        · cases hf; exact fin _ rfl rfl
        · cases hf
      · cases hf
    · cases hf
  | .rowSame e k xs :: l, n, o, z, hf, ho, hr, hv => by
    simp only [OE.fit] at hf
    split at hf
    · rename_i o' z' e1
      have fin : (∀ p ∈ o', p) → z = z' → OE.wf (.rowSame e k xs :: l) z := by
        intro ho' hz
        subst hz
        exact OE_wf sig (ol := l) e1 ho' (fun j e k xs hj => hr (j + 1) e k xs hj) (fun N p q y h1 h2 h3 h4 h5 => hv N p q y h1 h2 (fun m hm => h3 m hm) (fun m hm => h4 m hm) (fun m hm => h5 m hm))
      split at hf
      · split at hf
        · split at hf
          · split at hf
            · rename_i hk _
              subst hk
              cases hf
              exact fin (fun p hp => ho p (List.mem_cons_of_mem _ hp)) rfl
            · cases hf
          · cases hf
        · cases hf
      · cases hf
    · cases hf
  | .var t p :: l, n, o, z, hf, ho, hr, hv => by
    simp only [OE.fit] at hf
    split at hf
    · rename_i o' z' t' cs e1 hob
      split at hf
      · split at hf
        · rename_i q y e2
          cases hf
          refine ⟨hv n p q y e2 (fun x hx => ho x (List.mem_append_left _ hx)) (fun m hm => by simp [OE.allNames, hm]) (fun m hm => by simp only [OE.allTaken]; exact List.mem_append_left _ hm) (fun x hx => by simp only [OE.sig]; exact List.mem_append_left _ hx) ⟨_, _, hob⟩, ?_⟩
          exact OE_wf sig (ol := l) e1 (fun p hp => ho p (List.mem_append_right _ hp)) (fun j e k xs hj => hr (j + 1) e k xs hj) (fun N p q y h1 h2 h3 h4 h5 => hv N p q y h1 h2 (fun m hm => by simp only [OE.allNames]; exact List.mem_append_right _ (h3 m hm))
            (fun m hm => by simp only [OE.allTaken]; exact List.mem_append_right _ (h4 m hm)) (fun x hx => by simp only [OE.sig]; exact List.mem_append_right _ (h5 x hx)))
        · cases hf
      · cases hf
    · cases hf

  | .iter t :: l, n, o, z, hf, ho, hr, hv => by
    simp only [OE.fit] at hf
    split at hf
    · rename_i o' z' t' pos e1 hob
      cases hf
      exact OE_wf sig (ol := l) e1 (fun p hp => ho p (by simp [hp])) (fun j e k xs hj => hr (j + 1) e k xs hj) (fun N p q y h1 h2 h3 h4 h5 => hv N p q y h1 h2 (fun m hm => h3 m hm) (fun m hm => h4 m hm) (fun m hm => h5 m hm))
    · cases hf
  | .iterSame t ps :: l, n, o, z, hf, ho, hr, hv => by
    simp only [OE.fit] at hf
    split at hf
    · rename_i o' z' t' pos e1 hob
      cases hf
      exact OE_wf sig (ol := l) e1 (fun p hp => ho p (by simp [hp])) (fun j e k xs hj => hr (j + 1) e k xs hj) (fun N p q y h1 h2 h3 h4 h5 => hv N p q y h1 h2 (fun m hm => h3 m hm) (fun m hm => h4 m hm) (fun m hm => h5 m hm))
    · cases hf
  | .dfr :: l, n, o, z, hf, ho, hr, hv => by
    simp only [OE.fit] at hf
    split at hf
    · rename_i o' z' e1 hob
      cases hf
      exact OE_wf sig (ol := l) e1 (fun p hp => ho p (by simp [hp])) (fun j e k xs hj => hr (j + 1) e k xs hj) (fun N p q y h1 h2 h3 h4 h5 => hv N p q y h1 h2 (fun m hm => h3 m hm) (fun m hm => h4 m hm) (fun m hm => h5 m hm))
    · cases hf

theorem df_fit {C C' : Cx} {ok : Nat → Prop} (hm : C.mv C' ok) : ∀ {l l' : List DE} {ds : List Deferred} {o : List Prop}, dfFit l l' = some o → (∀ p ∈ o, p) → (∀ n ∈ dfNames l, ok n) → DRel C l' ds → DRel C' l ds
  | [], l', ds, o, hf, _, _, hr => by
    cases l' with
    | nil => exact hr
    | cons s' l' => cases hf
  | .mark n :: l, l', ds, o, hf, ho, hn, hr => by
    cases l' with
    | nil => cases hf
    | cons s' l' =>
      cases s' <;> simp only [dfFit] at hf <;> try (cases hf; done)
      split at hf
      · rename_i e
        obtain ⟨h4, h5⟩ := hm.ok n (hn n (by simp [dfNames]))
        subst e
        obtain ⟨b, r, e, h1, h2, h3⟩ := hr
        exact ⟨b, r, e, h4, by rw [h5]; exact h2, df_fit hm hf ho (fun m hm' => hn m (by simp [dfNames, hm'])) h3⟩
      · cases hf
  | .fn f c :: l, l', ds, o, hf, ho, hn, hr => by
    cases l' with
    | nil => cases hf
    | cons s' l' =>
      cases s' <;> simp only [dfFit] at hf <;> try (cases hf; done)
      split at hf
      · rename_i e
        subst e
        split at hf
        · rename_i p q e1 e2
          cases hf
          obtain ⟨vs, r, e, h1, h2⟩ := hr
          exact ⟨vs, r, e, SV.rels.mv hm (fun m hm' => hn m (by simp [dfNames, hm'])) (sameSVs_rel e1 (fun x hx => ho x (List.mem_append_left _ hx)) h1), df_fit hm e2 (fun x hx => ho x (List.mem_append_right _ hx)) (fun m hm' => hn m (by simp [dfNames, hm'])) h2⟩
        · cases hf
      · cases hf

theorem stk_fit (h : StRel B ρ st a fs w) {C' : Cx} {ok : Nat → Prop} (hm : (cx B ρ st.hp w).mv C' ok) : ∀ {l l' : List (Slots × List DE)} {fs : List Act} {o : List Prop}, stkFit l l' = some o → (∀ p ∈ o, p) → (∀ n ∈ stkNames l, ok n) → StkRel (cx B ρ st.hp w) l' fs → StkRel C' l fs
  | [], l', fs, o, hf, _, _, hr => by
    cases l' with
    | nil => exact hr
    | cons s' l' => cases hf
  | s :: l, l', fs, o, hf, ho, hn, hr => by
    cases l' with
    | nil => cases hf
    | cons s' l' =>
      simp only [stkFit] at hf
      split at hf
      · rename_i p d q e1 ed e2
        cases hf
        obtain ⟨t, r, e, h1, hd1, h2⟩ := hr
        refine ⟨t, r, e, ⟨rfl, fun i sv hi => ?_⟩, df_fit hm ed (fun x hx => ho x (by simp [hx])) (fun n hn' => hn n (by simp only [stkNames, List.flatMap_cons]; simp [hn'])) hd1, stk_fit h hm e2 (fun x hx => ho x (by simp [hx])) (fun n hn' => hn n (by simp only [stkNames, List.flatMap_cons] at hn' ⊢; exact List.mem_append_right _ hn')) h2⟩
        have key : ∀ {s : Slots} {p : List Prop}, slFit s s'.1 = some p → (∀ x ∈ p, x) → (∀ n ∈ slNames s, ok n) → s.lookup i = some sv → i < t.tmps.size ∧ sv.rel C' (t.tmps.getD i undef) := by
          intro s
          induction s with
          | nil => intro p _ _ _ hl; cases hl
          | cons pr s ih =>
            obtain ⟨j, u⟩ := pr
            intro p hf ho hn hl
            simp only [slFit] at hf
            split at hf
            · rename_i s'' e3
              split at hf
              · rename_i p1 q1 e4 e5
                cases hf
                rw [lookup_cons] at hl
                split at hl
                · rename_i hij
                  cases hl
                  subst hij
                  obtain ⟨h3, h4⟩ := h1.2 i s'' e3
                  exact ⟨h3, SV.rel.mv hm (fun n hnn => hn n (by simp [slNames, SV.namesL, hnn])) (sameSV_rel e4 (fun x hx => ho x (List.mem_append_left _ hx)) h4)⟩
                · exact ih e5 (fun x hx => ho x (List.mem_append_right _ hx)) (fun n hnn => hn n (by simp only [slNames, List.map_cons, SV.namesL] at hnn ⊢; exact List.mem_append_right _ hnn)) hl
              · cases hf
            · cases hf
        exact key e1 (fun x hx => ho x (List.mem_append_left _ hx)) (fun n hnn => hn n (by simp only [stkNames, List.flatMap_cons]; simp [hnn])) hi
      · cases hf

theorem fitK_sound (h : StRel B ρ st a fs w) {pl : List PE} {ol : List OE} {stk0 : List (Slots × List DE)} {df0 : List DE} {ls0 : LS} {K : PE.Tup pl → OE.Tup ol → Prop} (hk : st.fitK pl ol stk0 df0 ls0 K) :
    ∃ ρ' y z, K y z ∧ PE.wf pl y ∧ OE.wf ol z ∧ StRel B ρ' (headSt st pl ol stk0 df0 ls0 y z) a fs w := by
  unfold St.fitK at hk
  split at hk
  · rename_i hb
    split at hk
    · rename_i o y o' z o'' dd e1 e2 e3 e4
      obtain ⟨ho, hk⟩ := conj_all hk
      obtain ⟨ho', hk⟩ := conj_all hk
      obtain ⟨ho'', hk⟩ := conj_all hk
      obtain ⟨hod, hk⟩ := conj_all hk
      unfold St.fitB at hb
      simp only [Bool.and_eq_true, List.all_eq_true, decide_eq_true_eq, Bool.not_eq_true', List.contains_eq_mem, decide_eq_false_iff_not, List.mem_append] at hb
      obtain ⟨⟨⟨⟨⟨⟨b1, b2⟩, b3⟩, b4⟩, b5⟩, b6⟩, b7⟩ := hb
      generalize hsig : PE.sig st.look pl ++ OE.sig st 0 ol = sig at *
      have hsigm : ∀ x, x ∈ PE.sig st.look pl ∨ x ∈ OE.sig st 0 ol → x ∈ sig := fun x hx => by rw [← hsig]; exact List.mem_append.2 hx
      have hlen := OE_mk_get ol z
      let ρ' : Nat → Value := handleOf ρ sig
      have get := OE_get (st := st) sig e2 ho' b2
      simp only [Nat.zero_add] at get
      -- where a live object's block comes from
      have srcBlk : ∀ n, live (OE.mk ol z) n → ∀ b, blk (ρ' n) = some b → ∃ m, m ∈ OE.srcs sig 0 ol ∧ live st.hp m ∧ blk (ρ m) = some b ∧ ∀ oe, ol[n]? = some oe → srcAt sig n oe m := by
        rintro n ⟨ob, hob⟩ b hbk
        obtain ⟨oe, hoe, hsh⟩ := mk_shape ol z n ob hob
        rcases get n ob hob with ⟨e, k, xs, rfl, ⟨m, h1, h2, h3⟩ | ⟨c, h1, h2, rfl⟩⟩ | ⟨t, p, y', cs, q, rfl, h2, h3, h4, h5, h6, h7, h8⟩ | ⟨hp, h2, h6, h7⟩
        · refine ⟨m, h3, ⟨_, h2⟩, ?_, fun oe' hoe' => ?_⟩
          · have : ρ' n = ρ m := by show handleOf ρ sig n = _; unfold handleOf; rw [h1]
            rw [← this]; exact hbk
          · rw [hoe] at hoe'; cases hoe'
            cases oe <;> simp only at hsh <;> first | exact h1 | exact hsh.elim
        · have : ρ' n = c := by show handleOf ρ sig n = _; unfold handleOf; rw [h1]
          rw [this, nilSlice_eq h2] at hbk
          cases hbk
        · refine ⟨n, h7, ⟨_, h2⟩, ?_, fun oe' hoe' => ?_⟩
          · have : ρ' n = ρ n := by show handleOf ρ sig n = _; unfold handleOf; rw [h6]
            rw [← this]; exact hbk
          · rw [hoe] at hoe'; cases hoe'
            cases oe <;> simp only at hsh <;> first | rfl | exact hsh.elim
        · refine ⟨n, h7, ⟨_, h2⟩, ?_, fun oe' hoe' => ?_⟩
          · have : ρ' n = ρ n := by show handleOf ρ sig n = _; unfold handleOf; rw [h6]
            rw [← this]; exact hbk
          · rw [hoe] at hoe'; cases hoe'
            cases ob <;> simp only [isPlain, Bool.false_eq_true] at hp <;> cases oe <;> simp only at hsh <;> first | rfl | exact hsh.elim
      have f : FitCx B ρ st w (cx B ρ' (OE.mk ol z) w) sig (OE.srcs sig 0 ol) := ⟨rfl, fun _ => rfl, fun b hF => by
        rcases hF with hF | ⟨n, hn, hbk⟩
        · exact .inl hF
        · obtain ⟨m, h1, h2, h3, _⟩ := srcBlk n hn b hbk
          exact .inr ⟨m, h1, h2, h3⟩, rfl⟩
      have hN : (cx B ρ' (OE.mk ol z) w).N = ol.length := hlen
      have mv := f.mv
      have okn : ∀ n, okSrc st sig ol.length n = true → okSrc st sig (cx B ρ' (OE.mk ol z) w).N n = true := fun n hn => by rw [hN]; exact hn
      have sigOk : ∀ p, p ∈ sig → p.1 < (cx B ρ' (OE.mk ol z) w).N ∧ sameSrc (srcOf sig p.1) p.2 = true := fun p hp => by rw [hN]; exact b3 p (by rw [← hsig] at hp; exact List.mem_append.1 hp)
      have slots : ∀ i, (st.look i).rel (cx B ρ st.hp w) (a.tmps.getD i undef) := fun i => by
        unfold St.look
        split
        · rename_i s hs; exact (h.s.2 i s hs).2
        · trivial
      obtain ⟨w1, w2⟩ := PE_fit h f slots e1 ho (fun n hn => okn n (b4 n (.inl (.inl hn)))) (fun m hm => b5 m (.inl hm)) (fun p hp => sigOk p (hsigm p (.inl hp)))
      -- cells of variables
      have cells : ∀ (n t : Nat) (cs : List SV) (vs : List Value), st.hp[n]? = some (some (.var t cs)) → SV.rels (cx B ρ st.hp w) cs vs → ∀ {p : List PE} {q : List Prop} {y' : PE.Tup p}, PE.fit st (cellLook st n) p = some (q, y') → (∀ x ∈ q, x) →
          (∀ m ∈ PE.names p, m ∈ OE.allNames ol) → (∀ m ∈ PE.taken (cellLook st n) p, m ∈ OE.allTaken st 0 ol) → (∀ x ∈ PE.sig (cellLook st n) p, x ∈ OE.sig st 0 ol) →
          PE.wf p y' ∧ ∀ i s, (i, s) ∈ PE.mk p y' → s.rel (cx B ρ' (OE.mk ol z) w) (vs.getD i undef) := by
        intro n t cs vs hob hvs p q y' hpf hq hnm htk hsg
        refine PE_fit h f (val := fun i => vs.getD i undef) (fun i => ?_) hpf hq (fun n hn => okn n (b4 n (.inl (.inr (hnm n hn))))) (fun m hm => b5 m (.inr (htk m hm))) (fun p hp => sigOk p (hsigm p (.inr (hsg p hp))))
        unfold cellLook
        rw [hob]
        simp only
        split
        · rename_i s hs
          obtain ⟨v, h1, h2⟩ := rels_get hvs hs
          rw [List.getD_eq_getElem?_getD, h1]; exact h2
        · trivial
      have objs : ∀ (n : Nat) (ob : Ob), (OE.mk ol z)[n]? = some (some ob) → ob.rel (cx B ρ' (OE.mk ol z) w) (ρ' n) := by
        intro n ob hob
        rcases get n ob hob with ⟨e, k, xs, rfl, ⟨m, h1, h2, h3⟩ | ⟨c, h1, h2, rfl⟩⟩ | ⟨t, p, y', cs, q, rfl, h2, h3, h4, h5, h6, h7, h8, h9, h10, h11⟩ | ⟨hp, h2, h6, h7⟩
        · have hr : ρ' n = ρ m := by show handleOf ρ sig n = _; unfold handleOf; rw [h1]
          rw [hr]
          obtain ⟨inner, h4, h5⟩ := h.h.obj m _ h2
          exact ⟨inner, h4, fun i x hx => (h5 i x hx).mono mv.F⟩
        · have hr : ρ' n = c := by show handleOf ρ sig n = _; unfold handleOf; rw [h1]
          rw [hr, nilSlice_eq h2]
          exact ⟨[], .inl (World.ownsRow_nil _ _ _ _), fun i x hx => by cases hx⟩
        · have hr : ρ' n = ρ n := by show handleOf ρ sig n = _; unfold handleOf; rw [h6]
          rw [hr]
          obtain ⟨b, vs, h12, h13, h14⟩ := h.h.obj n _ h2
          refine ⟨b, vs, h12, h13, ?_⟩
          obtain ⟨_, h15⟩ := cells n t cs vs h2 h14 h4 h5 h9 h10 h11
          have hvl := rels_length h14
          -- one by one
          have hpl := mk_places p y'
          rw [h8] at hpl
          have : ∀ (l : Slots) (k : Nat) (us : List Value), l.map (·.1) = List.range' k l.length → us.length = l.length → (∀ i, us[i]? = vs[k + i]?) → (∀ i s, (i, s) ∈ l → s.rel (cx B ρ' (OE.mk ol z) w) (vs.getD i undef)) → SV.rels (cx B ρ' (OE.mk ol z) w) (l.map (·.2)) us := by
            intro l
            induction l with
            | nil => intro k us _ hl _ _; exact List.eq_nil_of_length_eq_zero hl
            | cons pr l ih =>
              obtain ⟨i, s⟩ := pr
              intro k us hm hl hu hs
              cases us with
              | nil => simp at hl
              | cons u us =>
                simp only [List.map_cons, List.length_cons, List.range'_succ, List.cons.injEq] at hm
                obtain ⟨rfl, hm⟩ := hm
                have h0 : some u = vs[i]? := by simpa using hu 0
                refine ⟨u, us, rfl, ?_, ih (i + 1) us hm (by simpa using hl) (fun j => by
                  have := hu (j + 1)
                  simp only [List.getElem?_cons_succ] at this
                  rw [this]; congr 1; omega) (fun j t hj => hs j t (List.mem_cons_of_mem _ hj))⟩
                have := hs i s List.mem_cons_self
                rw [List.getD_eq_getElem?_getD, ← h0] at this
                exact this
          have hl2 : (PE.mk p y').length = p.length := by have := congrArg List.length hpl; simpa using this
          refine this _ 0 vs (by rw [hpl, hl2, List.range_eq_range']) (by rw [hvl, h3, hl2]) (fun i => by simp) h15
        · have hr : ρ' n = ρ n := by show handleOf ρ sig n = _; unfold handleOf; rw [h6]
          rw [hr]
          have := h.h.obj n _ h2
          cases ob <;> simp only [isPlain, Bool.false_eq_true] at hp <;> exact this
      refine ⟨ρ', y, z, hk, w1, ?_, ⟨⟨(LS.eqb_eq b7) ▸ h.h.kept, objs, fun n m b hn hm hnb hmb => ?_, fun n b hn hnb => ?_, (LS.eqb_eq b7) ▸ h.h.fb⟩, ⟨h.s.1, fun i s hs => ?_⟩, (fun t b hb => by cases hb), stk_fit h mv e3 ho'' (fun n hn => okn n (b4 n (.inr (.inr hn)))) h.k, df_fit mv e4 hod (fun n hn => okn n (b4 n (.inr (.inl hn)))) h.d, h.g⟩⟩
      · refine OE_wf sig e2 ho' (fun j e k xs hj => row_wf (objs j _ hj)) (fun N p q y' h1 h2 h3 h4 h5 h6 => ?_)
        obtain ⟨t, cs, hob⟩ := h6
        obtain ⟨b, vs, _, _, h14⟩ := h.h.obj N _ hob
        exact (cells N t cs vs hob h14 h1 h2 h3 h4 h5).1
      · obtain ⟨m1, _, h2, h3, h4⟩ := srcBlk n hn b hnb
        obtain ⟨m2, _, h5, h6, h7⟩ := srcBlk m hm b hmb
        have := h.h.sep m1 m2 b h2 h5 h3 h6
        subst this
        obtain ⟨ob1, ho1⟩ := hn
        obtain ⟨ob2, ho2⟩ := hm
        obtain ⟨oe1, hoe1, _⟩ := mk_shape ol z n ob1 ho1
        obtain ⟨oe2, hoe2, _⟩ := mk_shape ol z m ob2 ho2
        exact srcs_inj sig ol 0 n m m1 oe1 oe2 b1 hoe1 hoe2 (by simpa using h4 oe1 hoe1) (by simpa using h7 oe2 hoe2)
      · obtain ⟨m1, _, h2, h3, _⟩ := srcBlk n hn b hnb
        have := h.h.own m1 b h2 h3
        rw [LS.eqb_eq b7] at this
        exact this
      · have hm := mk_lookup hs
        refine ⟨b6 i ?_, w2 i s hm⟩
        rw [← mk_places pl y]
        exact List.mem_map.2 ⟨(i, s), hm, rfl⟩
    · exact hk.elim
  · exact hk.elim
end
end Go.Vc
end
section
/- A round of a loop over a function. -/
namespace Go.Vc
open Go.RowKit

/-! ### Values that are no yield -/
mutual
def SV.ny : SV → Bool
  | .yld => false
  | .fn _ c => SV.nyL c
  | .tup c => SV.nyL c
  | .agg c => SV.nyL c
  | .ifc _ s => SV.ny s
  | .gd _ s => SV.ny s
  | _ => true
def SV.nyL : List SV → Bool
  | [] => true
  | s :: l => SV.ny s && SV.nyL l
end

/-- One reading goes over into another, whatever loop there is. -/
structure Cx.le0 (C C' : Cx) : Prop where
  size : C.w.heap.size ≤ C'.w.heap.size
  same : ∀ b, b < C.w.heap.size → ¬ C.F b → C'.w.heap[b]? = C.w.heap[b]?
  F : ∀ b, b < C.w.heap.size → C'.F b → C.F b
  N : C.N ≤ C'.N
  ρ : ∀ n, n < C.N → C'.ρ n = C.ρ n

def Cx.wl (C : Cx) (l : Nat) : Cx := { C with lp := l }
theorem Cx.le0.le {C C' : Cx} (h : C.le0 C') : (C.wl C'.lp).le C' := ⟨h.size, h.same, h.F, h.N, h.ρ, rfl⟩

mutual
theorem SV.rel.wl {C : Cx} {l : Nat} : ∀ {s : SV} {v : Value}, s.ny = true → s.rel C v → s.rel (C.wl l) v
  | .dat _ _, _, _, h => h
  | .cst _, _, _, h => h
  | .own _, _, _, h => h
  | .sub _ _ _ _, _, _, h => h
  | .ptr _ _, _, _, h => h
  | .rptr _, _, _, h => h
  | .adr _ _, _, _, h => h
  | .oel _ _ _ _, _, _, h => h
  | .aar _ _, _, _, h => h
  | .junk, _, _, _ => trivial
  | .fn f c, v, hn, h => by obtain ⟨vs, e, h⟩ := h; exact ⟨vs, e, SV.rels.wl hn h⟩
  | .tup c, v, hn, h => by obtain ⟨vs, e, h⟩ := h; exact ⟨vs, e, SV.rels.wl hn h⟩
  | .agg c, v, hn, h => by obtain ⟨vs, e, h⟩ := h; exact ⟨vs, e, SV.rels.wl hn h⟩
  | .ifc t s, v, hn, h => by obtain ⟨u, e, h⟩ := h; exact ⟨u, e, SV.rel.wl hn h⟩
  | .gd p s, v, hn, h => ⟨fun hp => SV.rel.wl hn (h.1 hp), h.2⟩
  | .yld, _, hn, _ => by cases hn
theorem SV.rels.wl {C : Cx} {l : Nat} : ∀ {c : List SV} {vs : List Value}, SV.nyL c = true → SV.rels C c vs → SV.rels (C.wl l) c vs
  | [], _, _, h => h
  | s :: c, vs, hn, h => by
    simp only [SV.nyL, Bool.and_eq_true] at hn
    obtain ⟨v, r, e, h1, h2⟩ := h
    exact ⟨v, r, e, SV.rel.wl hn.1 h1, SV.rels.wl hn.2 h2⟩
end

def slNy (sl : Slots) : Bool := sl.all fun p => p.2.ny
def DE.ny : DE → Bool
  | .mark _ => true
  | .fn _ c => SV.nyL c
def Ob.ny : Ob → Bool
  | .var _ c => SV.nyL c
  | _ => true
def St.ny (st : St) : Bool := slNy st.sl && st.df.all DE.ny && (st.stk.all fun p => slNy p.1 && p.2.all DE.ny) && (st.hp.all fun o => match o with | some o => o.ny | none => true)

theorem DRel.wl {C : Cx} {l : Nat} : ∀ {d : List DE} {ds : List Deferred}, d.all DE.ny = true → DRel C d ds → DRel (C.wl l) d ds
  | [], _, _, h => h
  | .mark n :: d, ds, hn, h => by
    simp only [List.all_cons, Bool.and_eq_true] at hn
    obtain ⟨b, r, e, h1, h2, h3⟩ := h
    exact ⟨b, r, e, h1, h2, DRel.wl hn.2 h3⟩
  | .fn f c :: d, ds, hn, h => by
    simp only [List.all_cons, Bool.and_eq_true] at hn
    obtain ⟨vs, r, e, h1, h2⟩ := h
    exact ⟨vs, r, e, SV.rels.wl hn.1 h1, DRel.wl hn.2 h2⟩

theorem SlotsRel.wl {C : Cx} {l n : Nat} {sl : Slots} {t : Array Value} (hn : slNy sl = true) (h : SlotsRel C n sl t) : SlotsRel (C.wl l) n sl t :=
  ⟨h.1, fun i s hs => ⟨(h.2 i s hs).1, SV.rel.wl (by
    have := mk_lookup hs
    simp only [slNy, List.all_eq_true] at hn
    exact hn _ this) (h.2 i s hs).2⟩⟩

theorem StkRel.wl {C : Cx} {l : Nat} : ∀ {k : List (Slots × List DE)} {fs : List Act}, (k.all fun p => slNy p.1 && p.2.all DE.ny) = true → StkRel C k fs → StkRel (C.wl l) k fs
  | [], _, _, h => h
  | p :: k, fs, hn, h => by
    simp only [List.all_cons, Bool.and_eq_true] at hn
    obtain ⟨t, r, e, h1, h2, h3⟩ := h
    exact ⟨t, r, e, h1.wl hn.1.1, h2.wl hn.1.2, StkRel.wl (by simpa using hn.2) h3⟩

theorem Ob.rel.wl {C : Cx} {l : Nat} {o : Ob} {v : Value} (hn : o.ny = true) (h : o.rel C v) : o.rel (C.wl l) v := by
  cases o with
  | row e k xs => exact h
  | var t cs => obtain ⟨b, vs, e, h1, h2⟩ := h; exact ⟨b, vs, e, h1, SV.rels.wl hn h2⟩
  | siter s p => exact h
  | dfr => exact h

/-! ### The loop's record -/
def Jump.code : Jump → Code
  | .ret => .ret
  | .exit id => .exit id
def Loop.as (r : Loop) : LS → Loop
  | .no => r
  | .ready => { r with state := .ready, pending := none }
  | .busy => { r with state := .busy, pending := none }
  | .done j => { r with state := .done, pending := some j.code }

/-- A walk within a loop over a function. -/
structure InLoop (B : Base) (W1 : World) (r0 : Loop) : Prop where
  alt : ∀ ls, B.alt ls = W1.putObj B.lp (.loop (Loop.as r0 ls))
  lt : B.lp < W1.heap.size
  fb : B.Fb B.lp

section
variable {B : Base} {ρ : Nat → Value} {st : St} {a : Act} {fs : List Act} {w W1 : World} {r0 : Loop}

theorem StRel.rec_at (h : StRel B ρ st a fs w) (hl : InLoop B W1 r0) : w.heap[B.lp]? = some (.loop (Loop.as r0 st.ls)) := by
  have h1 := h.h.kept.block B.lp (by rw [hl.alt]; simpa using hl.lt) (h.h.fb _ hl.fb).2
  rw [h1, hl.alt]
  exact World.putObj_heap_same hl.lt

/-- The record is turned. -/
theorem StRel.turn_ls (h : StRel B ρ st a fs w) (hl : InLoop B W1 r0) (ls : LS) : StRel B ρ { st with ls := ls } a fs (w.putObj B.lp (.loop (Loop.as r0 ls))) := by
  have hat := h.rec_at hl
  have hlt := (Array.getElem?_eq_some_iff.1 hat).1
  have le : (cx B ρ st.hp w).le (cx B ρ st.hp (w.putObj B.lp (.loop (Loop.as r0 ls)))) := by
    refine ⟨by simp, fun b _ hF => World.putObj_heap_other (fun e => hF (.inl ?_)), fun _ _ h => h, Nat.le_refl _, fun _ _ => rfl, rfl⟩
    rw [e]; exact hl.fb
  refine ⟨⟨⟨?_, ?_, ?_, ?_, fun b hb hn => ?_⟩, fun n o ho => ?_, h.h.sep, fun n b hn hb => ?_, fun b hb => ?_⟩, h.s.le le, h.kn, h.k.le le, h.d.le le, h.g⟩
  · rw [hl.alt]; have := h.h.kept.os; rw [hl.alt] at this; exact this
  · rw [hl.alt]; have := h.h.kept.tape; rw [hl.alt] at this; exact this
  · rw [hl.alt]; have := h.h.kept.output; rw [hl.alt] at this; exact this
  · rw [hl.alt]; have := h.h.kept.size; rw [hl.alt] at this; simpa using this
  · rw [hl.alt]
    by_cases e : b = B.lp
    · subst e
      rw [World.putObj_heap_same hlt, World.putObj_heap_same hl.lt]
    · rw [World.putObj_heap_other e, World.putObj_heap_other e]
      have hb2 : b < (B.alt st.ls).heap.size := by rw [hl.alt] at hb ⊢; simpa using hb
      have := h.h.kept.block b hb2 hn
      rw [hl.alt, World.putObj_heap_other e] at this
      exact this
  · refine (h.h.obj n o ho).le le (fun b hb => World.putObj_heap_other (fun e => ?_))
    subst e
    exact (h.h.own n _ ⟨o, ho⟩ hb).2 hl.fb
  · have := h.h.own n b hn hb
    rw [hl.alt] at this ⊢
    simpa using this
  · have := h.h.fb b hb
    rw [hl.alt] at this ⊢
    simpa using this
end

/-! ### A round -/
def setAll : Slots → List (Nat × SV) → Slots
  | sl, [] => sl
  | sl, p :: l => setAll (p :: sl) l

def St.roundIn (st : St) (n : Nat) (sl : Slots) (ps : List Nat) (args : List SV) : St :=
  { n := n, sl := setAll sl (ps.zip args), kn := [], stk := (st.sl, st.df) :: st.stk, hp := st.hp, df := [], ls := .ready, gl := st.gl }

def St.roundOut (st st' : St) (ls : LS) (b : Bool) (kv : SV → St → Prop) : Prop :=
  match st'.ls, st'.stk with
  | .busy, (sl, df) :: r => kv (.cst (.bool b)) { n := st.n, sl := sl, kn := st.kn, stk := r, hp := st'.hp, df := df, ls := ls, gl := st.gl }
  | _, _ => False

inductive Ex where
  | normal | exit (id : Nat) | ret | pan (s : SV)

def vcRound (A Bd : St → (Ex → St → Prop) → Prop) (n : Nat) (ps : List Nat) : CallSem := fun args st kv _ =>
  match st.ls, st.stk with
  | .ready, fr :: _ =>
    if args.length = ps.length ∧ ps.all (fun p => p < n) = true then
      A (st.roundIn n fr.1 ps args) fun e st1 => match e, st1.ls with
        | .normal, .ready => Bd { st1 with ls := .busy } fun e st2 => match e with
          | .normal => st.roundOut st2 .ready true kv
          | .ret => st.roundOut st2 (.done .ret) false kv
          | .exit id => st.roundOut st2 (.done (.exit id)) false kv
          | .pan _ => False
        | _, _ => False
    else False
  | _, _ => False

def CPost (B : Base) (fs : List Act) (k : Ex → St → Prop) : Exit → Act → World → Prop
  | .normal, a, w => ∃ st ρ, k .normal st ∧ StRel B ρ st a fs w
  | .exit id, a, w => ∃ st ρ, k (.exit id) st ∧ StRel B ρ st a fs w
  | .ret, a, w => ∃ st ρ, k .ret st ∧ StRel B ρ st a fs w
  | .panic ch, a, w => ∃ v s st ρ, ch = [{ v := v, recovered := false }] ∧ k (.pan s) st ∧ StRel B ρ st a fs w ∧ s.rel (cx B ρ st.hp w) v
  | .goto _, _, _ => False
  | .outgrown, _, _ => False

theorem CPost.noOut {B : Base} {fs : List Act} {k : Ex → St → Prop} : ¬ LetsOut (CPost B fs k) := fun ⟨_, _, h⟩ => h

theorem setAll_rel {C : Cx} {n : Nat} : ∀ (ps : List Nat) (args : List SV) (vs : List Value) (sl : Slots) (t : Array Value), SlotsRel C n sl t → SV.rels C args vs → args.length = ps.length → ps.all (fun p => p < n) = true →
    SlotsRel C n (setAll sl (ps.zip args)) ((ps.zip vs).foldl (fun (t : Array Value) (p : Nat × Value) => t.setIfInBounds p.1 p.2) t)
  | [], _, _, _, _, h, _, _, _ => h
  | p :: ps, [], _, _, _, _, _, hl, _ => by simp at hl
  | p :: ps, s :: args, vs, sl, t, h, hr, hl, hp => by
    obtain ⟨v, r, rfl, h1, h2⟩ := hr
    simp only [List.all_cons, Bool.and_eq_true, decide_eq_true_eq] at hp
    simp only [List.zip_cons_cons, setAll, List.foldl_cons]
    refine setAll_rel ps args r ((p, s) :: sl) (t.setIfInBounds p v) ⟨by rw [Array.size_setIfInBounds]; exact h.1, fun i s' hs => ?_⟩ h2 (by simpa using hl) hp.2
    rw [lookup_cons] at hs
    split at hs
    · rename_i e
      cases hs
      subst e
      refine ⟨hp.1, ?_⟩
      have : i < t.size := by rw [h.1]; exact hp.1
      rw [Array.getD_eq_getD_getElem?, Array.getElem?_setIfInBounds_self_of_lt this]
      exact h1
    · rename_i e
      obtain ⟨h3, h4⟩ := h.2 i s' hs
      refine ⟨h3, ?_⟩
      rw [Array.getD_eq_getD_getElem?, Array.getElem?_setIfInBounds_ne (Ne.symm e), ← Array.getD_eq_getD_getElem?]
      exact h4

/-- What is asked of a piece of code in a round. -/
def RoundOk (P : Program) (B : Base) (fs : List Act) (c : Code) (A : St → (Ex → St → Prop) → Prop) : Prop :=
  ∀ {st : St} {a : Act} {w : World} {ρ : Nat → Value} {k : Ex → St → Prop} (a1 : Act), A st k → StRel B ρ st a (a1 :: fs) w → c.wpIn (fen (some B.lp)) 0 P (CPost B (a1 :: fs) k) a w

theorem round_sound {P : Program} {B : Base} {W1 : World} {r0 : Loop} (hl : InLoop B W1 r0) {a0 : Act} {fs : List Act} {assign body : Code} {A Bd : St → (Ex → St → Prop) → Prop}
    (hA : RoundOk P B (a0 :: fs) assign A) (hBd : RoundOk P B (a0 :: fs) body Bd) {n : Nat} {ps : Array Nat} (h0 : r0.tmps = a0.tmps) (h1 : r0.params = ps) (h2 : r0.assign = assign) (h3 : r0.body = body) (hn : a0.tmps.size = n) :
    YieldOk P B (a0 :: fs) (vcRound A Bd n ps.toList) := by
  intro args st kv kp ρ a w vs hk h hr
  unfold vcRound at hk
  split at hk
  · rename_i fr rest hls hstk
    split at hk
    · rename_i hc
      obtain ⟨hlen, hps⟩ := hc
      have hat := h.rec_at hl
      rw [hls] at hat
      have hvl := rels_length hr
      have hy := run_yield (P := P) (args := vs.toArray) hat (by
        show vs.toArray.size = r0.params.size
        rw [h1]
        simp only [List.size_toArray]
        rw [hvl, hlen]; simp)
      have hkk := h.k
      rw [hstk] at hkk
      obtain ⟨t, r, e, hs1, hd1, hk1⟩ := hkk
      cases e
      refine ⟨_, _, _, _, hy, roundIn_of_wpIn trivial ?_⟩
      have hsr : StRel B ρ (st.roundIn n fr.1 ps.toList args) { tmps := (((Loop.as r0 .ready).params.zip vs.toArray).foldl (fun tmps (t, a) => tmps.setIfInBounds t a) (Loop.as r0 .ready).tmps), defers := [] } (a :: a0 :: fs) w := by
        refine ⟨by rw [show (st.roundIn n fr.1 ps.toList args).ls = st.ls from hls.symm]; exact h.h, ?_, (fun t b hb => by cases hb), ⟨a, _, rfl, ?_, h.d, h.k⟩, rfl, h.g⟩
        · have := setAll_rel (n := n) ps.toList args vs fr.1 a0.tmps (by rw [← hn]; exact hs1) hr hlen hps
          show SlotsRel _ n (setAll fr.1 (ps.toList.zip args)) ((r0.params.zip vs.toArray).foldl (fun tmps (t, a) => tmps.setIfInBounds t a) r0.tmps)
          rw [h0, h1]
          rw [← Array.foldl_toList, Array.toList_zip]
          exact this
        · exact ⟨rfl, fun i s hs => by have := h.s.2 i s hs; rw [h.s.1]; exact this⟩
      have hasg : (Loop.as r0 .ready).assign = assign := h2
      have hbod : (Loop.as r0 .ready).body = body := h3
      rw [hasg, hbod]
      refine wpIn_mono (hA a hk hsr) (fun e a1 w1 hq => ?_)
      cases e with
      | normal =>
        obtain ⟨st1, ρ1, hk1, h4⟩ := hq
        split at hk1
        · rename_i hx
          have hat1 := h4.rec_at hl
          rw [hx] at hat1
          refine ⟨_, run_beginRound hat1 rfl, ?_⟩
          have h5 := h4.turn_ls hl .busy
          refine wpIn_mono (hBd a hk1 h5) (fun e a2 w2 hq => ?_)
          have fin : ∀ (st2 : St) (ρ2 : Nat → Value) (ls : LS) (b : Bool) (jump : Option Code), st.roundOut st2 ls b kv → StRel B ρ2 st2 a2 (a :: a0 :: fs) w2 → b = jump.isNone →
              (∀ r : Loop, { Loop.as r .busy with state := if jump.isNone then LoopState.ready else LoopState.done, pending := jump } = Loop.as r ls) →
              ∃ v w', (Instr.endRound B.lp jump).run P w2 = .ok v w' ∧ CallPost B a (a0 :: fs) kv kp (.returned v) w' := by
            intro st2 ρ2 ls b jump hk2 h6 hb hr2
            unfold St.roundOut at hk2
            split at hk2
            · rename_i sl2 df2 r2 hx2 hstk2
              have hat2 := h6.rec_at hl
              rw [hx2] at hat2
              have h7 := h6.turn_ls hl ls
              refine ⟨_, _, run_endRound jump hat2, _, _, ρ2, hk2, ?_, by rw [hb]; rfl⟩
              rw [hr2]
              have hk7 := h7.k
              simp only [hstk2] at hk7
              obtain ⟨t2, rr2, e2, hs2, hd2, hkr2⟩ := hk7
              cases e2
              exact ⟨h7.h, by rw [← h.s.1]; exact hs2, h.kn, hkr2, hd2, h.g⟩
            · exact hk2.elim
          cases e with
          | normal => obtain ⟨st2, ρ2, hk2, h6⟩ := hq; exact fin st2 ρ2 .ready true none hk2 h6 rfl (fun r => rfl)
          | ret => obtain ⟨st2, ρ2, hk2, h6⟩ := hq; exact fin st2 ρ2 (.done .ret) false (some .ret) hk2 h6 rfl (fun r => rfl)
          | exit id => obtain ⟨st2, ρ2, hk2, h6⟩ := hq; exact fin st2 ρ2 (.done (.exit id)) false (some (.exit id)) hk2 h6 rfl (fun r => rfl)
          | panic ch => obtain ⟨_, _, _, _, _, hk2, _⟩ := hq; exact hk2.elim
          | goto l => exact hq.elim
          | outgrown => exact hq.elim
        · exact hk1.elim
      | ret => obtain ⟨st2, ρ2, hk2, h6⟩ := hq; simp at hk2
      | exit id => obtain ⟨st2, ρ2, hk2, h6⟩ := hq; simp at hk2
      | panic ch => obtain ⟨_, _, _, _, _, hk2, _⟩ := hq; simp at hk2
      | goto l => exact hq.elim
      | outgrown => exact hq.elim
    · exact hk.elim
  · exact hk.elim
end Go.Vc
end
section
/- Code, function bodies, contracts. -/
namespace Go.Vc
open Go.RowKit

theorem wp_loop_rel {F : Fence} {j : Nat} {P : Program} {Q : Exit → Act → World → Prop} {a : Act} {w : World} {c : Code} (R : Nat → Act → World → Prop) (n₀ : Nat) (h₀ : R n₀ a w)
    (round : ∀ n a w, R n a w → c.wpIn F j P (Exit.then (fun a' w' => ∃ m, m < n ∧ R m a' w') Q) a w) : (Code.loop c).wpIn F j P Q a w := by
  intro b k cs hro hb hr
  have key : ∀ n a w, R n a w →
      ∃ e a' w', Q e a' w' ∧ ArrivesIn (Machine.fenced P F) P (lone (b.atR a (.code c :: .inLoop c :: k)) cs w) b k cs e a' w' := by
    intro n
    induction n using Nat.strongRecOn with
    | _ n ih =>
      intro a w hI
      obtain ⟨e, a₁, w₁, hq, harr⟩ := round n a w hI b (.inLoop c :: k) cs hro hb hr
      cases e with
      | normal =>
        obtain ⟨m, hlt, hI₁⟩ := hq
        obtain ⟨e₂, a₂, w₂, hq₂, harr₂⟩ := ih m hlt a₁ w₁ hI₁
        exact ⟨e₂, a₂, w₂, hq₂, .of_steps (StepsIn.trans harr (.one (fenced_calm hb hr rfl) stepR_inLoop)) harr₂⟩
      | exit id => exact ⟨_, a₁, w₁, hq, .pass (x := .inLoop c) rfl (fun _ _ => .inl (by simp)) harr⟩
      | goto l => exact ⟨_, a₁, w₁, hq, .pass (x := .inLoop c) rfl (fun _ _ => .inl (by simp)) harr⟩
      | ret => exact ⟨_, a₁, w₁, hq, .pass (x := .inLoop c) rfl (fun _ _ => .inl (by simp)) harr⟩
      | panic ch => exact ⟨_, a₁, w₁, hq, .pass (x := .inLoop c) rfl (fun _ _ => .inl (by simp)) harr⟩
      | outgrown => exact ⟨_, a₁, w₁, hq, .pass (x := .inLoop c) rfl (fun _ _ => .inl (by simp)) harr⟩
  obtain ⟨e, a', w', hq, harr⟩ := key n₀ a w h₀
  exact ⟨e, a', w', hq, .of_steps (.one (fenced_calm hb hr rfl) stepR_loop) harr⟩

section
variable {P : Program} {b : Frame} {a : Act} {k : List Item} {cs : List Frame} {w : World}
theorem stepR_scope {c : Code} : step P (lone (b.atR a (.code (.scope c) :: k)) cs w) = .next (lone (b.atR a (.code c :: .inScope c :: k)) cs w) :=
  step_lone_go (by simp [stepG, stepG.exec, Frame.atR])
theorem stepR_inScope {c : Code} : step P (lone (b.atR a (.inScope c :: k)) cs w) = .next (lone (b.atR a k) cs w) :=
  step_lone_go (by simp [stepG, stepG.exec, Frame.atR])
end

theorem wpIn_scope {F : Fence} {j : Nat} {P : Program} {Q : Exit → Act → World → Prop} {a : Act} {w : World} {c : Code} (h : c.wpIn F j P (Exit.noGoto Q) a w) : (Code.scope c).wpIn F j P Q a w := by
  intro b k cs hro hb hr
  have h0 : (lone (b.atR a (.code (.scope c) :: k)) cs w).fenced P F := fenced_calm hb hr rfl
  obtain ⟨e, a₁, w₁, hq, harr⟩ := h b (.inScope c :: k) cs hro hb hr
  have hx : ∀ id, exitTo id (.inScope c :: k) = exitTo id k := fun id => by simp [exitTo]
  cases e with
  | normal => exact ⟨.normal, a₁, w₁, hq, .head h0 stepR_scope (StepsIn.trans harr (.one (fenced_calm hb hr rfl) stepR_inScope))⟩
  | exit id => exact ⟨.exit id, a₁, w₁, hq, fun k' hk => .head h0 stepR_scope (harr.1 k' (by rw [hx]; exact hk)), fun hr' hk => let ⟨k₁, h1, h2⟩ := harr.2 hr' (by rw [hx]; exact hk); ⟨k₁, h1, .head h0 stepR_scope h2⟩⟩
  | goto l => exact hq.elim
  | ret => exact ⟨_, a₁, w₁, hq, .of_steps (.one h0 stepR_scope) harr⟩
  | panic ch => exact ⟨_, a₁, w₁, hq, .of_steps (.one h0 stepR_scope) harr⟩
  | outgrown => exact ⟨_, a₁, w₁, hq, .of_steps (.one h0 stepR_scope) harr⟩

/-! ### What a loop may turn -/
def dstsOps (l : List Oper) : List Nat := l.filterMap (·.dst)
def dsts : Code → List Nat
  | .region _ ops _ => dstsOps ops.toList
  | .seq a b => dsts a ++ dsts b
  | .cond _ a b => dsts a ++ dsts b
  | .block _ c => dsts c
  | .loop c => dsts c
  | .scope c => dsts c
  | _ => []

/-- Of the slots that a piece of code sets: their types. -/
def dstTy : Code → Nat → Option Nat
  | .region _ ops _, i => (ops.toList.find? fun o => o.dst == some i && (match o.op with | .assign _ => true | _ => false)).map (·.type)
  | .seq a b, i => match dstTy a i with | some t => some t | none => dstTy b i
  | .cond _ a b, i => match dstTy a i with | some t => some t | none => dstTy b i
  | .block _ c, i => dstTy c i
  | .loop c, i => dstTy c i
  | .scope c, i => dstTy c i
  | _, _ => none

def opLoud (muts : List Nat) (o : Oper) : Bool :=
  match o.op with
  | .store .. => true
  | .call c => match c.callee with
    | .value (.func f) => muts.contains f
    | .value _ => true
    | _ => false
  | _ => false
def loud (muts : List Nat) : Code → Bool
  | .region _ ops _ => ops.toList.any (opLoud muts)
  | .seq a b => loud muts a || loud muts b
  | .cond _ a b => loud muts a || loud muts b
  | .block _ c => loud muts c
  | .loop c => loud muts c
  | .scope c => loud muts c
  | .rangeFunc .. => true
  | _ => false

/-- Does a piece of code take a text's next character? -/
def nexts : Code → Bool
  | .region _ ops _ => ops.toList.any fun o => match o.op with | .next _ _ => true | _ => false
  | .seq a b => nexts a || nexts b
  | .cond _ a b => nexts a || nexts b
  | .block _ c => nexts c
  | .loop c => nexts c
  | .scope c => nexts c
  | .rangeFunc .. => true
  | _ => false

/-- The slots at a loop's head; further rows for those that are nil. -/
def planSl (E : Ty) (asDat : List Nat) (body : Code) (ds : List Nat) : Nat → Slots → List PE × List OE
  | _, [] => ([], [])
  | N, (i, s) :: r =>
    if ds.contains i then
      match s with
      | .dat k _ => let q := planSl E asDat body ds N r; (.var i k :: q.1, q.2)
      | .own n => if asDat.contains i then
          match E.k ((dstTy body i).getD 0) with
          | some k => let q := planSl E asDat body ds N r; (.var i k :: q.1, q.2)
          | none => planSl E asDat body ds N r
        else let q := planSl E asDat body ds N r; (.own i n :: q.1, q.2)
      | .cst c => if nilSlice c then
          match E.d ((dstTy body i).getD 0), E.k ((dstTy body i).getD 0) with
          | .sl e, some (.sl k) => if asDat.contains i then let q := planSl E asDat body ds N r; (.var i (.sl k) :: q.1, q.2)
              else let q := planSl E asDat body ds (N + 1) r; (.own i N :: q.1, .row e k :: q.2)
          | _, _ => planSl E asDat body ds N r
        else match c with
          | .bool _ => let q := planSl E asDat body ds N r; (.var i .bool :: q.1, q.2)
          | _ => planSl E asDat body ds N r
      | .sub _ k _ _ => let q := planSl E asDat body ds N r; (.var i (.sl k) :: q.1, q.2)
      | _ => planSl E asDat body ds N r
    else match sameSV s s with
      | some _ => let q := planSl E asDat body ds N r; (.same i s :: q.1, q.2)
      | none => planSl E asDat body ds N r

def ownNames : List PE → List Nat
  | [] => []
  | .own _ n :: l => n :: ownNames l
  | _ :: l => ownNames l

def cellNames (st : St) (n : Nat) : List Nat := match st.hp[n]? with | some (some (.var _ cs)) => SV.namesL cs | _ => []
def reach (st : St) : Nat → List Nat → List Nat
  | 0, l => l
  | k + 1, l => reach st k (l ++ l.flatMap (cellNames st))

/-- What a nil of a variable's type is a row of. -/
def nilRow (E : Ty) (t : Nat) (c : Value) : Option (Nat × Kd) :=
  if nilSlice c then
    match E.d t with
    | .sl e => match E.k e with
      | some k => some (e, k)
      | none => none
    | _ => none
  else none

def planCells (E : Ty) (t : Nat) (abs : Bool) : Nat → Nat → List SV → List PE × List OE
  | _, _, [] => ([], [])
  | N, i, s :: l =>
    match abs, s with
    | true, .dat k _ => (.var i k :: (planCells E t abs N (i + 1) l).1, (planCells E t abs N (i + 1) l).2)
    | true, .own n => (.own i n :: (planCells E t abs N (i + 1) l).1, (planCells E t abs N (i + 1) l).2)
    | true, .cst (.bool _) => (.var i .bool :: (planCells E t abs N (i + 1) l).1, (planCells E t abs N (i + 1) l).2)
    | true, .cst c => match nilRow E t c with
      | some (e, k) => (.own i N :: (planCells E t abs (N + 1) (i + 1) l).1, .row e k :: (planCells E t abs (N + 1) (i + 1) l).2)
      | none => (.same i s :: (planCells E t abs N (i + 1) l).1, (planCells E t abs N (i + 1) l).2)
    | _, s => (.same i s :: (planCells E t abs N (i + 1) l).1, (planCells E t abs N (i + 1) l).2)

def planOb (E : Ty) (abs nx : Bool) (refd owned : List Nat) : Nat → Nat → List (Option Ob) → List OE × List OE
  | _, _, [] => ([], [])
  | N, n, ob :: l =>
    if refd.contains n then
      match ob with
      | some (.row e k xs) => ((if abs || owned.contains n then .row e k else .rowSame e k xs) :: (planOb E abs nx refd owned N (n + 1) l).1, (planOb E abs nx refd owned N (n + 1) l).2)
      | some (.var t cs) => let p := planCells E t abs N 0 cs
        (.var t p.1 :: (planOb E abs nx refd owned (N + p.2.length) (n + 1) l).1, p.2 ++ (planOb E abs nx refd owned (N + p.2.length) (n + 1) l).2)
      | some (.siter s pos) => ((if nx then .iter s else .iterSame s pos) :: (planOb E abs nx refd owned N (n + 1) l).1, (planOb E abs nx refd owned N (n + 1) l).2)
      | some .dfr => (.dfr :: (planOb E abs nx refd owned N (n + 1) l).1, (planOb E abs nx refd owned N (n + 1) l).2)
      | none => (.dead :: (planOb E abs nx refd owned N (n + 1) l).1, (planOb E abs nx refd owned N (n + 1) l).2)
    else (.dead :: (planOb E abs nx refd owned N (n + 1) l).1, (planOb E abs nx refd owned N (n + 1) l).2)

structure Hints where
  asDat : List Nat := []
  muts : List Nat := []
  joins : List Nat := []
  /-- Where the ways are led together ahead of a region: variables that were made on each of them: the region, the slot, the type. -/
  news : List (Nat × Nat × Nat) := []

/-- The first region's number. -/
def firstId : Code → Option Nat
  | .region id _ _ => some id
  | .seq a b => match firstId a with | some i => some i | none => firstId b
  | .block _ c => firstId c
  | .loop c => firstId c
  | .scope c => firstId c
  | _ => none

def Hints.joined (H : Hints) (c : Code) : Bool := match firstId c with | some i => H.joins.contains i | none => false

def plan (E : Ty) (H : Hints) (body : Code) (st : St) : List PE × List OE :=
  let q := planSl E H.asDat body (dsts body) st.hp.length st.sl
  let abs := loud H.muts body
  let refd := reach st 3 (PE.names q.1 ++ ownNames q.1 ++ (dfNames st.df ++ stkNames st.stk))
  let o := planOb E abs (nexts body) refd (ownNames q.1 ++ (if abs then refd else [])) (st.hp.length + q.2.length) 0 st.hp
  (q.1, o.1 ++ (q.2 ++ o.2))

def St.knowOp (st : St) (c : Operand) (b : Bool) : St := match c with | .tmp t => st.know t b | _ => st

/-- Code in a round. -/
def Env.inRound (E : Env) : Env := { E with yld := none, rnd := true }

/-- Behind a loop over a function. -/
def St.loopOut (st : St) (k : Ex → St → Prop) : Prop :=
  if st.ny then
    match st.ls with
    | .ready => k .normal { st with ls := .no }
    | .done .ret => k .ret { st with ls := .no }
    | .done (.exit id) => k (.exit id) { st with ls := .no }
    | _ => False
  else False

/-- A state behind a loop over a function: the frame has a mark more. -/
def St.marked (st : St) : Code → St
  | .rangeFunc .. => { st with hp := st.hp ++ [some .dfr], df := .mark st.hp.length :: st.df }
  | .block _ (.rangeFunc ..) => { st with hp := st.hp ++ [some .dfr], df := .mark st.hp.length :: st.df }
  | .seq _ (.rangeFunc ..) => { st with hp := st.hp ++ [some .dfr], df := .mark st.hp.length :: st.df }
  | .seq _ (.block _ (.rangeFunc ..)) => { st with hp := st.hp ++ [some .dfr], df := .mark st.hp.length :: st.df }
  | _ => st

/-- Each slot once, as it is now. -/
def uniqSl : List Nat → Slots → Slots
  | _, [] => []
  | seen, (i, s) :: r => if seen.contains i then uniqSl seen r else (i, s) :: uniqSl (i :: seen) r
def St.uniq (st : St) : St := { st with sl := uniqSl [] st.sl }

def Hints.newsAt (H : Hints) (c : Code) : List (Nat × Nat) := match firstId c with
  | some i => (H.news.filter fun p => p.1 == i).map (·.2)
  | none => []
def St.withNews (E : Ty) : St → List (Nat × Nat) → St
  | st, [] => st
  | st, (s, t) :: l => match E.k t with
    | some k => St.withNews E { st with hp := st.hp ++ [some (.var t (leaves k k.dft))], sl := (s, .ptr st.hp.length 0) :: st.sl } l
    | none => st
def planD (E : Ty) (H : Hints) (body : Code) (ds : List Nat) (st : St) : List PE × List OE :=
  let q := planSl E H.asDat body ds st.hp.length st.sl
  let abs := loud H.muts body
  let refd := reach st 3 (PE.names q.1 ++ ownNames q.1 ++ (dfNames st.df ++ stkNames st.stk))
  let o := planOb E abs (nexts body) refd (ownNames q.1 ++ (if abs then refd else [])) (st.hp.length + q.2.length) 0 st.hp
  (q.1, o.1 ++ (q.2 ++ o.2))
/-- How the ways are led together. -/
def planJ (E : Ty) (H : Hints) (x y : Code) (st : St) : List PE × List OE :=
  match H.newsAt y with
  | [] => plan E H x (st.marked x).uniq
  | l => planD E H x ((dsts x).filter fun i => !(l.map (·.1)).contains i) ((st.marked x).withNews E l).uniq

def vcCode (H : Hints) : Code → Env → St → (Ex → St → Prop) → Prop
  | .skip, _, st, k => k .normal st
  | .region _ ops draw, E, st, k =>
    if draw then vcDraw E ops st (fun st' => k .normal (st'.trim E.keep)) (fun s st' => k (.pan s) st')
    else vcOps E ops ops.toList st (fun st' => k .normal (st'.trim E.keep)) (fun s st' => k (.pan s) st')
  | .seq x y, E, st, k => if H.joined y then
      ∃ J : PE.Tup (planJ E.toTy H x y st).1 → OE.Tup (planJ E.toTy H x y st).2 → Prop,
        (vcCode H x E st fun e st' => match e with
          | .normal => if st'.n = st.n then st'.fitK (planJ E.toTy H x y st).1 (planJ E.toTy H x y st).2 (cleanStk st.stk) (st.marked x).df st.ls J else False
          | .exit id => k (.exit id) st'
          | .ret => k .ret st'
          | .pan s => k (.pan s) st') ∧
        ∀ u z, PE.wf (planJ E.toTy H x y st).1 u → OE.wf (planJ E.toTy H x y st).2 z → J u z → vcCode H y E (headSt st (planJ E.toTy H x y st).1 (planJ E.toTy H x y st).2 (cleanStk st.stk) (st.marked x).df st.ls u z) k
    else vcCode H x E st fun e st' => match e with
    | .normal => vcCode H y E st' k
    | .exit id => k (.exit id) st'
    | .ret => k .ret st'
    | .pan s => k (.pan s) st'
  | .cond c x y, E, st, k => match st.ev c with
    | .dat .bool b => (b = true → vcCode H x E (st.knowOp c true) k) ∧ (b = false → vcCode H y E (st.knowOp c false) k)
    | .cst (.bool true) => vcCode H x E st k
    | .cst (.bool false) => vcCode H y E st k
    | _ => False
  | .block id c, E, st, k => vcCode H c E st fun e st' => match e with
    | .normal => k .normal st'
    | .exit j => if j = id then k .normal st' else k (.exit j) st'
    | .ret => k .ret st'
    | .pan s => k (.pan s) st'
  | .loop c, E, st, k =>
    let p := plan E.toTy H c st.uniq
    ∃ (I : PE.Tup p.1 → OE.Tup p.2 → Prop) (μ : PE.Tup p.1 → OE.Tup p.2 → Nat),
      st.fitK p.1 p.2 (cleanStk st.stk) st.df st.ls I ∧
      ∀ y z, PE.wf p.1 y → OE.wf p.2 z → I y z → vcCode H c E (headSt st p.1 p.2 (cleanStk st.stk) st.df st.ls y z) fun e st' => match e with
        | .normal => if st'.n = st.n then st'.fitK p.1 p.2 (cleanStk st.stk) st.df st.ls (fun y' z' => I y' z' ∧ μ y' z' < μ y z) else False
        | .exit j => k (.exit j) st'
        | .ret => k .ret st'
        | .pan s => k (.pan s) st'
  | .exit id, _, st, k => k (.exit id) st
  | .scope c, E, st, k => vcCode H c E st k
  | .label _, _, st, k => k .normal st
  | .ret, _, st, k => k .ret st
  | .rangeFunc g ps assign body, E, st, k =>
    if E.rnd then False else
    match st.ls, st.ev g with
    | .no, .fn f cap => match E.seqs f with
      | some q => if st.ny && SV.nyL cap then
          q (vcRound (fun st k => vcCode H assign E.inRound st k) (fun st k => vcCode H body E.inRound st k) st.n ps.toList) (.yld :: cap)
            { st with hp := st.hp ++ [some .dfr], df := .mark st.hp.length :: st.df, ls := .ready } (fun _ st' => st'.loopOut k) (fun _ _ => False)
        else False
      | none => False
    | _, _ => False
  | _, _, _, _ => False

section
variable {H : Hints}

theorem knowT {B : Base} {fs : List Act} {ρ : Nat → Value} {st : St} {a : Act} {w : World} {t : Nat} {b : Bool} (h : StRel B ρ st a fs w) (hb : st.ev (.tmp t) = .dat .bool b) (hc : a.eval (.tmp t) = .bool b) : StRel B ρ (st.know t b) a fs w := by
  simp only [St.ev] at hb
  split at hb
  · rename_i s hs
    exact h.know (h.s.2 t s hs).1 hc
  · cases hb

theorem getElem?_snoc_lt {α : Type} {l : List α} {x : α} {i : Nat} (h : i < l.length) : (l ++ [x])[i]? = l[i]? := List.getElem?_append_left h

/-- A whole state goes over to another start. -/
theorem StRel.over {B B' : Base} {ρ : Nat → Value} {st : St} {a : Act} {fs : List Act} {w w' : World} (h : StRel B ρ st a fs w) (hny : st.ny = true) (le : (cx B ρ st.hp w).le0 (cx B' ρ st.hp w')) (ls : LS)
    (hk : Kept B'.S (B'.alt ls) w') (hb : ∀ n b, live st.hp n → blk (ρ n) = some b → w'.heap[b]? = w.heap[b]?)
    (ho : ∀ n b, live st.hp n → blk (ρ n) = some b → ((B'.alt ls).heap.size ≤ b ∨ B'.S b) ∧ ¬ B'.Fb b) (hf : ∀ b, B'.Fb b → b < (B'.alt ls).heap.size ∧ ¬ B'.S b) (hg : B'.gl = B.gl) : StRel B' ρ { st with ls := ls } a fs w' := by
  simp only [St.ny, Bool.and_eq_true] at hny
  obtain ⟨⟨⟨n1, n2⟩, n3⟩, n4⟩ := hny
  have le' := le.le
  refine ⟨⟨hk, fun n o hn => ?_, h.h.sep, ho, hf⟩, (h.s.wl n1).le le', h.kn, (h.k.wl n3).le le', (h.d.wl n2).le le', h.g.trans hg.symm⟩
  have hon : o.ny = true := by
    simp only [List.all_eq_true] at n4
    exact n4 _ (List.mem_iff_getElem?.2 ⟨n, hn⟩)
  exact ((h.h.obj n o hn).wl hon).le le' (fun b hbk => hb n b ⟨o, hn⟩ hbk)

theorem range_sound2 {E : Env} {gl : Gl} (hE : E.Ok gl) {B : Base} (hB : B.gl = gl) {fs : List Act} {ρ : Nat → Value} {st : St} {a : Act} {w : World} {k : Ex → St → Prop} {g : Operand} {ps : Array Nat} {assign body : Code}
    (h : StRel B ρ st a fs w) (hls : st.ls = .no) {f : Nat} {cap : List SV} (hev : st.ev g = .fn f cap) {q : CallSem → CallSem} (hq : E.seqs f = some q) (hny : st.ny = true) (hnc : SV.nyL cap = true)
    {A Bd : St → (Ex → St → Prop) → Prop} (hA : ∀ B', B'.gl = gl → RoundOk E.P B' ({ a with defers := { target := .collected w.heap.size, args := #[] } :: a.defers } :: fs) assign A) (hBd : ∀ B', B'.gl = gl → RoundOk E.P B' ({ a with defers := { target := .collected w.heap.size, args := #[] } :: a.defers } :: fs) body Bd)
    (hk : q (vcRound A Bd st.n ps.toList) (.yld :: cap) { st with hp := st.hp ++ [some .dfr], df := .mark st.hp.length :: st.df, ls := .ready } (fun _ st' => st'.loopOut k) (fun _ _ => False)) :
    (Code.rangeFunc g ps assign body).wpIn (fen none) 0 E.P (CPost B fs k) a w := by
  have hgr := ev_rel h g
  rw [hev] at hgr
  obtain ⟨cvs, hge, hcr⟩ := hgr
  refine wpIn_rangeFunc (fun fn _ => ?_)
  let r0 : Loop := { state := .ready, pending := none, fn, tmps := a.tmps, params := ps, assign, body, defers := w.heap.size }
  let wD : World := w.alloc (.deferred (some []))
  let W1 : World := wD.alloc (.loop r0)
  have hD : wD.heap.size = w.heap.size + 1 := by simp [wD]
  have hW : W1.heap.size = w.heap.size + 2 := by simp [W1, hD]
  -- the block for deferred calls, an object
  have T : Turn B ρ (upd ρ st.hp.length (.pointer (some ⟨w.heap.size, 0, none⟩))) st.hp (st.hp ++ [some .dfr]) w wD st.hp.length none :=
    Turn.new (World.grownBy_alloc w _ none) (fun b hb => by cases hb; exact Nat.le_refl _)
  have hR1 := h.turn T (fun ob hob => by
    rw [getElem?_snoc] at hob
    cases hob
    rw [upd_same]
    exact ⟨_, rfl, World.alloc_heap_new w _⟩)
  generalize hρ' : upd ρ st.hp.length (.pointer (some ⟨w.heap.size, 0, none⟩)) = ρ' at T hR1
  have hρm : ρ' st.hp.length = .pointer (some ⟨w.heap.size, 0, none⟩) := by rw [← hρ', upd_same]
  have hρo : ∀ n, n < st.hp.length → ρ' n = ρ n := fun n hn => by rw [← hρ']; exact upd_lt ρ _ _ n hn
  have hlive : ∀ n b, live (st.hp ++ [some .dfr]) n → blk (ρ' n) = some b → (n = st.hp.length ∧ b = w.heap.size) ∨ (live st.hp n ∧ blk (ρ n) = some b) := by
    rintro n b ⟨o, ho⟩ hb
    have hlt := (List.getElem?_eq_some_iff.1 ho).1
    simp only [List.length_append, List.length_singleton] at hlt
    by_cases e : n = st.hp.length
    · subst e
      rw [hρm] at hb
      cases hb
      exact .inl ⟨rfl, rfl⟩
    · rw [getElem?_snoc_lt (by omega)] at ho
      rw [hρo n (by omega)] at hb
      exact .inr ⟨⟨o, ho⟩, hb⟩
  have hh1 : ∀ b, b < wD.heap.size → W1.heap[b]? = wD.heap[b]? := fun b hb => Below.heap_alloc wD _ b hb
  have hh0 : ∀ b, b < w.heap.size → wD.heap[b]? = w.heap[b]? := fun b hb => Below.heap_alloc w _ b hb
  have halt : ∀ (ls : LS) (b : Nat), b < wD.heap.size → (W1.putObj wD.heap.size (.loop (Loop.as r0 ls))).heap[b]? = wD.heap[b]? := fun ls b hb => (World.putObj_heap_other (by omega)).trans (hh1 b hb)
  let B2 : Base := {
    alt := fun ls => W1.putObj wD.heap.size (.loop (Loop.as r0 ls))
    S := fun b => ∃ n, live (st.hp ++ [some .dfr]) n ∧ blk (ρ' n) = some b
    Fb := fun b => B.Fb b ∨ b = wD.heap.size
    lp := wD.heap.size
    gl := B.gl
    gok := fun ls => by
      have hg := h.gls
      rw [h.g] at hg
      refine hg.step (by rw [World.putObj_size, hW]; omega) (fun b hb _ => (halt ls b (by omega)).trans (hh0 b hb)) (fun b hb hF => ?_)
      rcases hF with (hF | hF) | ⟨n, hn, hbk⟩
      · exact .inl hF
      · omega
      · rcases hlive n b hn hbk with ⟨_, e⟩ | ⟨h1, h2⟩
        · omega
        · exact .inr ⟨n, h1, h2⟩ }
  have hl2 : InLoop B2 W1 r0 := ⟨fun _ => rfl, by show wD.heap.size < W1.heap.size; omega, .inr rfl⟩
  have own1 : ∀ n b, live st.hp n → blk (ρ n) = some b → b < w.heap.size ∧ ((B.alt .no).heap.size ≤ b ∨ B.S b) ∧ ¬ B.Fb b := fun n b hn hb => by
    refine ⟨h.h.live_block hn hb, ?_⟩
    have := h.h.own n b hn hb
    rw [hls] at this
    exact this
  have hfb1 : ∀ b, B.Fb b → b < w.heap.size := fun b hb => Nat.lt_of_lt_of_le (h.h.fb b hb).1 h.h.kept.size
  have hny1 : ({ st with hp := st.hp ++ [some .dfr] } : St).ny = true := by
    simp only [St.ny, Bool.and_eq_true] at hny ⊢
    refine ⟨hny.1, ?_⟩
    rw [List.all_append, Bool.and_eq_true]
    exact ⟨hny.2, rfl⟩
  have hR2 : StRel B2 ρ' { st with hp := st.hp ++ [some .dfr], ls := .ready } a fs W1 := by
    refine hR1.over (B' := B2) hny1 ⟨by show wD.heap.size ≤ W1.heap.size; omega, fun b hb _ => hh1 b hb, fun b hb hF => ?_, Nat.le_refl _, fun _ _ => rfl⟩ .ready ?_ (fun n b hn hb => ?_) (fun n b hn hb => ?_) (fun b hb => ?_) rfl
    · rcases hF with (hF | hF) | hF
      · exact .inl hF
      · simp only at hb; omega
      · exact .inr hF
    · refine ⟨rfl, rfl, rfl, by show (W1.putObj _ _).heap.size ≤ _; rw [World.putObj_size]; exact Nat.le_refl _, fun b hb _ => ?_⟩
      by_cases e : b = wD.heap.size
      · subst e
        show W1.heap[wD.heap.size]? = (W1.putObj _ _).heap[wD.heap.size]?
        rw [World.putObj_heap_same (by omega)]
        exact World.alloc_heap_new wD _
      · exact (World.putObj_heap_other e).symm
    · rcases hlive n b hn hb with ⟨_, e⟩ | ⟨h1, h2⟩
      · exact hh1 b (by omega)
      · exact hh1 b (by have := (own1 n b h1 h2).1; omega)
    · refine ⟨.inr ⟨n, hn, hb⟩, ?_⟩
      rcases hlive n b hn hb with ⟨_, e⟩ | ⟨h1, h2⟩
      · rintro (hF | hF)
        · have := hfb1 b hF; omega
        · omega
      · obtain ⟨h3, _, h4⟩ := own1 n b h1 h2
        rintro (hF | hF)
        · exact h4 hF
        · omega
    · refine ⟨?_, ?_⟩
      · show b < (W1.putObj _ _).heap.size
        rw [World.putObj_size, hW]
        rcases hb with hF | hF
        · have := hfb1 b hF; omega
        · omega
      · rintro ⟨n, hn, hbk⟩
        rcases hlive n b hn hbk with ⟨_, e⟩ | ⟨h1, h2⟩
        · rcases hb with hF | hF
          · have := hfb1 b hF; omega
          · omega
        · obtain ⟨h3, _, h4⟩ := own1 n b h1 h2
          rcases hb with hF | hF
          · exact h4 hF
          · omega
  let a2 : Act := { a with defers := { target := .collected w.heap.size, args := #[] } :: a.defers }
  have hR3 : StRel B2 ρ' { st with hp := st.hp ++ [some .dfr], df := .mark st.hp.length :: st.df, ls := .ready } a2 fs W1 :=
    ⟨hR2.h, hR2.s, hR2.kn, hR2.k, ⟨_, _, rfl, by simp, hρm, hR2.d⟩, hR2.g⟩
  have hcr2 : SV.rels (cx B2 ρ' (st.hp ++ [some .dfr]) W1) (.yld :: cap) (.func (.yield wD.heap.size) #[] #[] :: cvs) := by
    refine ⟨_, _, rfl, rfl, ?_⟩
    have h1 : SV.rels (cx B ρ' (st.hp ++ [some .dfr]) wD) cap cvs := SV.rels.le T.le hcr
    refine SV.rels.le (C := (cx B ρ' (st.hp ++ [some .dfr]) wD).wl wD.heap.size) (C' := cx B2 ρ' (st.hp ++ [some .dfr]) W1) ⟨by show wD.heap.size ≤ W1.heap.size; omega, fun b hb _ => hh1 b hb, fun b hb hF => ?_, Nat.le_refl _, fun _ _ => rfl, rfl⟩ (SV.rels.wl hnc h1)
    rcases hF with (hF | hF) | hF
    · exact .inl hF
    · have : b < wD.heap.size := hb
      omega
    · exact .inr hF
  have hB2 : B2.gl = gl := hB
  have hyo : YieldOk E.P B2 (a2 :: fs) (vcRound A Bd st.n ps.toList) := round_sound hl2 (hA B2 hB2) (hBd B2 hB2) rfl rfl rfl rfl h.s.1
  obtain ⟨henter, hseq⟩ := hE.seq f q hq
  have hcalls := hseq _ _ _ _ _ B2 ρ' a2 fs W1 _ hB2 hyo hk hR3 hcr2
  refine ⟨wD.heap.size, [{ target := .collected w.heap.size, args := #[] }], W1, { target := .fn (.func f) cvs.toArray, args := #[.func (.yield wD.heap.size) #[] #[]] }, W1, f, (.func (.yield wD.heap.size) #[] #[] :: cvs).toArray, W1, ?_, ?_, fun _ _ => trivial, ?_, fun h => (by cases h), ?_⟩
  · have := run_enterLoop_outer (P := E.P) (w := w) fn a.tmps ps assign body
    rw [← hD] at this
    exact this
  · have hc : ∀ v : Value, a.eval (.const v) = v := fun _ => rfl
    simp [resolve, rangeCall, hge, hc, Deferred.ofValue]
  · simp only [invoke]
    rw [henter]
    congr 2
    simp
  · have h3 : CallsIn Fence.wide 0 E.P _ _ _ _ := callsIn_wide.2 hcalls
    refine CallsIn.mono (F := fen none) h3 (fun e w3 hw => ?_)
    cases e with
    | panicked ch => obtain ⟨_, _, _, _, _, hk2, _⟩ := hw; exact hk2.elim
    | outgrown => exact hw.elim
    | returned v =>
      obtain ⟨s, st3, ρ3, hk3, hR4, _⟩ := hw
      unfold St.loopOut at hk3
      split at hk3
      case isFalse => exact hk3.elim
      rename_i hny3
      have hat := hR4.rec_at hl2
      -- the way back
      have back : ∀ r : Loop, StRel B ρ3 { st3 with ls := .no } a2 fs (w3.putObj wD.heap.size (.loop r)) := by
        intro r
        have hk4 := hR4.h.kept
        have hsz : w.heap.size + 2 ≤ w3.heap.size := by
          have := hk4.size
          have h5 : (B2.alt st3.ls).heap.size = W1.heap.size := World.putObj_size
          omega
        have low : ∀ b, b < w.heap.size → (¬ ∃ n, live st.hp n ∧ blk (ρ n) = some b) → w3.heap[b]? = w.heap[b]? := fun b hb hn => by
          have h6 := hk4.block b (by show b < (W1.putObj _ _).heap.size; rw [World.putObj_size, hW]; omega) (by
            rintro ⟨n, h7, h8⟩
            rcases hlive n b h7 h8 with ⟨_, e⟩ | ⟨h9, h10⟩
            · omega
            · exact hn ⟨n, h9, h10⟩)
          rw [h6]
          exact (halt st3.ls b (by omega)).trans (hh0 b hb)
        refine hR4.over (B' := B) hny3 ⟨by simp, fun b hb hF => World.putObj_heap_other (fun e => hF (.inl (.inr e))), fun b _ hF => ?_, Nat.le_refl _, fun _ _ => rfl⟩ .no ?_ (fun n b hn hb => World.putObj_heap_other (fun e => (hR4.h.own n b hn hb).2 (.inr e))) (fun n b hn hb => ?_) (fun b hb => ?_) rfl
        · rcases hF with hF | hF
          · exact .inl (.inl hF)
          · exact .inr hF
        · have h9 := h.h.kept
          rw [hls] at h9
          refine ⟨hk4.os.trans h9.os, hk4.tape.trans h9.tape, hk4.output.trans h9.output, by show _ ≤ (w3.putObj _ _).heap.size; rw [World.putObj_size]; exact Nat.le_trans h9.size (by omega), fun b hb hn => ?_⟩
          have hbw : b < w.heap.size := Nat.lt_of_lt_of_le hb h9.size
          refine (show (w3.putObj wD.heap.size (.loop r)).heap[b]? = _ from (World.putObj_heap_other (by omega)).trans ((low b hbw ?_).trans (h9.block b hb hn)))
          rintro ⟨n, h10, h11⟩
          rcases (own1 n b h10 h11).2.1 with h12 | h12
          · omega
          · exact hn h12
        · obtain ⟨h10, h11⟩ := hR4.h.own n b hn hb
          have h9 := h.h.kept.size
          rw [hls] at h9
          refine ⟨?_, fun hF => h11 (.inl hF)⟩
          rcases h10 with h10 | ⟨m, h12, h13⟩
          · have h5 : (B2.alt st3.ls).heap.size = W1.heap.size := World.putObj_size
            exact .inl (by omega)
          · rcases hlive m b h12 h13 with ⟨_, e⟩ | ⟨h14, h15⟩
            · exact .inl (by omega)
            · exact (own1 m b h14 h15).2.1
        · have := h.h.fb b hb
          rw [hls] at this
          exact this
      split at hk3
      · rename_i e
        refine ⟨none, w3.putObj wD.heap.size (.loop { Loop.as r0 LS.ready with state := .exhausted }), ?_, _, ρ3, hk3, back _⟩
        have := run_endLoop (P := E.P) hat (by rw [e]; simp [Loop.as])
        rw [e] at this
        exact this
      · rename_i e
        refine ⟨some .ret, w3.putObj wD.heap.size (.loop { Loop.as r0 (LS.done .ret) with state := .exhausted }), ?_, wpIn_ret ⟨_, ρ3, hk3, back _⟩⟩
        have := run_endLoop (P := E.P) hat (by rw [e]; simp [Loop.as])
        rw [e] at this
        exact this
      · rename_i id e
        refine ⟨some (.exit id), w3.putObj wD.heap.size (.loop { Loop.as r0 (LS.done (.exit id)) with state := .exhausted }), ?_, wpIn_exit ⟨_, ρ3, hk3, back _⟩⟩
        have := run_endLoop (P := E.P) hat (by rw [e]; simp [Loop.as])
        rw [e] at this
        exact this
      · exact hk3.elim

theorem vcCode_sound {gl : Gl} : ∀ (c : Code) {E : Env} (hE : E.Ok gl) {B : Base} (hB : B.gl = gl) {fs : List Act} (hy : ∀ hd, E.yld = some hd → YieldOk E.P B fs hd) {r : Option Nat} (hr : E.rnd = false → r = none) {ρ : Nat → Value} {st : St} {a : Act} {w : World} {k : Ex → St → Prop},
    vcCode H c E st k → StRel B ρ st a fs w → c.wpIn (fen r) 0 E.P (CPost B fs k) a w
  | .skip, E, hE, B, hB, fs, hy, r, hr, ρ, st, a, w, k, hk, h => wpIn_skip ⟨st, ρ, hk, h⟩
  | .region id ops draw, E, hE, B, hB, fs, hy, r, hr, ρ, st, a, w, k, hk, h => by
    simp only [vcCode] at hk
    cases draw with
    | true =>
      rw [if_pos rfl] at hk
      exact vcDraw_sound hE hB CPost.noOut hk h (fun st' ρ' a' w' hn hr => ⟨_, _, hn, hr.trim _⟩) (fun s st' ρ' v a' w' hp hr hv => ⟨v, s, st', ρ', rfl, hp, hr, hv⟩)
    | false =>
      rw [if_neg (by simp)] at hk
      exact wpIn_region_list (gList_inn (vcOps_sound (L := Lg.inn E.P r) hE hB (fun hd he => ⟨trivial, hy hd he⟩) hr _ hk h (fun st' ρ' a' w' hn hr => ⟨_, _, hn, hr.trim _⟩) (fun s st' ρ' v a' w' hp hr hv => ⟨v, s, st', ρ', rfl, hp, hr, hv⟩)))
  | .seq x y, E, hE, B, hB, fs, hy, r, hr, ρ, st, a, w, k, hk, h => by
    simp only [vcCode] at hk
    split at hk
    · obtain ⟨J, h1, h2⟩ := hk
      refine wpIn_seq (wpIn_mono (vcCode_sound x hE hB hy hr h1 h) (fun e a' w' hq => ?_))
      cases e with
      | normal =>
        obtain ⟨st', ρ', h3, h4⟩ := hq
        simp only at h3
        split at h3
        case isFalse => exact h3.elim
        rename_i hn
        obtain ⟨ρ2, u, z, hJ, hu, hz, hr2⟩ := fitK_sound h4 h3
        exact vcCode_sound y hE hB hy hr (h2 u z hu hz hJ) (by simpa [headSt, hn, h4.g, h.g] using hr2)
      | exit id => exact hq
      | ret => exact hq
      | panic ch => exact hq
      | goto l => exact hq.elim
      | outgrown => exact hq.elim
    refine wpIn_seq (wpIn_mono (vcCode_sound x hE hB hy hr hk h) (fun e a' w' hq => ?_))
    cases e with
    | normal => obtain ⟨st', ρ', h1, h2⟩ := hq; exact vcCode_sound y hE hB hy hr h1 h2
    | exit id => exact hq
    | ret => exact hq
    | panic ch => exact hq
    | goto l => exact hq.elim
    | outgrown => exact hq.elim
  | .cond c x y, E, hE, B, hB, fs, hy, r, hr, ρ, st, a, w, k, hk, h => by
    simp only [vcCode] at hk
    have hc := ev_rel h c
    split at hk
    · rename_i b hb
      rw [hb] at hc
      have hc := VRep_bool.1 hc
      have kno : ∀ b', b = b' → StRel B ρ (st.knowOp c b') a fs w := by
        intro b' e
        unfold St.knowOp
        split
        · subst e
          exact knowT h hb hc
        · exact h
      exact wpIn_cond_split hc (fun e => vcCode_sound x hE hB hy hr (hk.1 e) (kno true e)) (fun e => vcCode_sound y hE hB hy hr (hk.2 e) (kno false e))
    · rename_i hb
      rw [hb] at hc
      exact wpIn_cond_true hc (vcCode_sound x hE hB hy hr hk h)
    · rename_i hb
      rw [hb] at hc
      exact wpIn_cond_false hc (vcCode_sound y hE hB hy hr hk h)
    · exact hk.elim
  | .block id c, E, hE, B, hB, fs, hy, r, hr, ρ, st, a, w, k, hk, h => by
    refine wpIn_block (wpIn_mono (vcCode_sound c hE hB hy hr hk h) (fun e a' w' hq => ?_))
    cases e with
    | normal => exact hq
    | exit j =>
      obtain ⟨st', ρ', h1, h2⟩ := hq
      simp only [Exit.inBlock]
      simp only at h1
      split
      · rename_i e; rw [if_pos e] at h1; exact ⟨st', ρ', h1, h2⟩
      · rename_i e; rw [if_neg e] at h1; exact ⟨st', ρ', h1, h2⟩
    | ret => exact hq
    | panic ch => exact hq
    | goto l => exact hq.elim
    | outgrown => exact hq.elim
  | .loop c, E, hE, B, hB, fs, hy, r, hr, ρ, st, a, w, k, hk, h => by
    simp only [vcCode] at hk
    obtain ⟨I, μ, h0, hround⟩ := hk
    obtain ⟨ρ0, y0, z0, hI0, hwy, hwz, hr0⟩ := fitK_sound h h0
    refine wp_loop_rel (fun n a w => ∃ ρ y z, n = μ y z ∧ I y z ∧ PE.wf _ y ∧ OE.wf _ z ∧ StRel B ρ (headSt st _ _ (cleanStk st.stk) st.df st.ls y z) a fs w) (μ y0 z0) ⟨ρ0, y0, z0, rfl, hI0, hwy, hwz, hr0⟩ ?_
    rintro n a w ⟨ρ, y, z, rfl, hI, hyw, hz, hrel⟩
    refine wpIn_mono (vcCode_sound c hE hB hy hr (hround y z hyw hz hI) hrel) (fun e a' w' hq => ?_)
    cases e with
    | normal =>
      obtain ⟨st', ρ', h1, h2⟩ := hq
      simp only at h1
      split at h1
      case isFalse => exact h1.elim
      rename_i hn
      obtain ⟨ρ2, y2, z2, ⟨hI2, hlt⟩, hy2, hz2, hr2⟩ := fitK_sound h2 h1
      exact ⟨_, hlt, ρ2, y2, z2, rfl, hI2, hy2, hz2, by simpa [headSt, hn, h2.g, h.g] using hr2⟩
    | exit id => exact hq
    | ret => exact hq
    | panic ch => exact hq
    | goto l => exact hq.elim
    | outgrown => exact hq.elim
  | .exit id, E, hE, B, hB, fs, hy, r, hr, ρ, st, a, w, k, hk, h => wpIn_exit ⟨st, ρ, hk, h⟩
  | .scope c, E, hE, B, hB, fs, hy, r, hr, ρ, st, a, w, k, hk, h => by
    refine wpIn_scope (wpIn_mono (vcCode_sound c hE hB hy hr hk h) (fun e a' w' hq => ?_))
    cases e <;> first | exact hq | exact hq.elim
  | .label l, E, hE, B, hB, fs, hy, r, hr, ρ, st, a, w, k, hk, h => wpIn_label ⟨st, ρ, hk, h⟩
  | .ret, E, hE, B, hB, fs, hy, r, hr, ρ, st, a, w, k, hk, h => wpIn_ret ⟨st, ρ, hk, h⟩
  | .rangeFunc g ps assign body, E, hE, B, hB, fs, hy, r, hr, ρ, st, a, w, k, hk, h => by
    simp only [vcCode] at hk
    split at hk
    · exact hk.elim
    rename_i hrnd
    have hr0 := hr (by simpa using hrnd)
    subst hr0
    split at hk
    · rename_i f cap hls hev
      split at hk
      · rename_i q hq
        split at hk
        · rename_i hny
          simp only [Bool.and_eq_true] at hny
          refine range_sound2 hE hB h hls hev hq hny.1 hny.2 (fun B' hB' => ?_) (fun B' hB' => ?_) hk
          · intro st' a' w' ρ' k' a1 hk' h'
            exact vcCode_sound assign (E := E.inRound) ⟨hE.ty, hE.fn, hE.seq, hE.df, hE.mixed⟩ hB' (fun hd he => by cases he) (fun he => by cases he) hk' h'
          · intro st' a' w' ρ' k' a1 hk' h'
            exact vcCode_sound body (E := E.inRound) ⟨hE.ty, hE.fn, hE.seq, hE.df, hE.mixed⟩ hB' (fun hd he => by cases he) (fun he => by cases he) hk' h'
        · exact hk.elim
      · exact hk.elim
    · exact hk.elim
  | .goto _, E, hE, B, hB, fs, hy, r, hr, ρ, st, a, w, k, hk, h => by simp only [vcCode] at hk
  | .refuse _, E, hE, B, hB, fs, hy, r, hr, ρ, st, a, w, k, hk, h => by simp only [vcCode] at hk
end
end Go.Vc
end
section
/- A function's body: walked at the place of its call. -/
namespace Go.Vc
open Go.RowKit

def enumFrom : Nat → List SV → Slots
  | _, [] => []
  | i, s :: l => (i, s) :: enumFrom (i + 1) l

def St.push (st : St) (n : Nat) (args : List SV) : St := { n := n, sl := enumFrom 0 args, kn := [], stk := (st.sl, st.df) :: st.stk, hp := st.hp, df := [], ls := st.ls, gl := st.gl }

def St.pop (st0 st : St) : Option St :=
  match st.stk with
  | (sl, df) :: r => some { n := st0.n, sl := sl, kn := st0.kn, stk := r, hp := st.hp, df := df, ls := st.ls, gl := st.gl }
  | [] => none

/-- What a function gives back. -/
def resSV (E : Ty) (st : St) : List ResultVar → Option (List Prop × List SV)
  | [] => some ([], [])
  | .tmp t :: l => match resSV E st l with
    | some (o, r) => some (o, st.ev (.tmp t) :: r)
    | none => none
  | .cell a t :: l => match st.load E t (st.ev (.tmp a)), resSV E st l with
    | some (p, s), some (o, r) => some (p ++ o, s :: r)
    | _, _ => none

def resVal : List SV → SV
  | [s] => s
  | l => .tup l

/-- The deferred calls, as a frame is left. -/
def vcLeave (E : Env) : Nat → St → Option SV → (St → Option SV → Prop) → Prop
  | 0, st, p, K => match st.df with
    | [] => K st p
    | _ => False
  | n + 1, st, p, K => match st.df with
    | [] => K st p
    | .mark m :: l => match st.hp[m]? with
      | some (some .dfr) => vcLeave E n { st with hp := st.hp.set m none, df := l } p K
      | _ => False
    | .fn f cap :: l => match E.dfs f with
      | some d => d cap { st with df := l } p (fun st' p' => vcLeave E n st' p' K)
      | none => False

def vcOut (E : Env) (rs : List ResultVar) (st0 : St) (kv kp : SV → St → Prop) (st' : St) (p : Option SV) : Prop :=
  match p, st0.pop st' with
  | none, some st'' => match resSV E.toTy st' rs with
    | some (o, l) => conj o (kv (resVal l) st'')
    | none => False
  | some s, some st'' => kp s st''
  | _, none => False

def vcFn (E : Env) (H : Hints) (n : Nat) (rs : List ResultVar) (body : Code) : CallSem := fun args st kv kp =>
  if args.length ≤ n then
    vcCode H body E (st.push n args) fun e st' => match e with
      | .normal => vcLeave E st'.df.length st' none (vcOut E rs st kv kp)
      | .ret => vcLeave E st'.df.length st' none (vcOut E rs st kv kp)
      | .pan s => vcLeave E st'.df.length st' (some s) (vcOut E rs st kv kp)
      | .exit _ => False
  else False

/-- A function that is ranged over. -/
def vcSeq (E : Env) (H : Hints) (n : Nat) (rs : List ResultVar) (body : Code) : CallSem → CallSem := fun h => vcFn { E with yld := some h } H n rs body

/-- A deferred function: what stands ahead of its first branch asks for the panic. -/
def isRecover (o : Oper) : Bool :=
  match o.op, o.guard with
  | .call c, none => (match c.callee with | .builtin .recover => true | _ => false) && c.args.isEmpty
  | _, _ => false

def recSV : Option SV → SV
  | some s => s
  | none => .cst .nilIface

def vcRec (H : Hints) : Code → Env → St → Option SV → (Ex → St → Prop) → Prop
  | .seq x y, E, st, p, k => vcRec H x E st p fun e st' => match e with
    | .normal => vcCode H y E st' k
    | _ => False
  | .region _ ops false, E, st, p, k => match ops.toList with
    | o :: rest => if isRecover o then st.setK o.dst (recSV p) fun st1 => vcStill E rest st1 fun st2 => k .normal (st2.trim E.keep) else False
    | [] => False
  | _, _, _, _, _ => False

def vcDef (E : Env) (H : Hints) (n : Nat) (rs : List ResultVar) (body : Code) : DefSem := fun cap st p K =>
  if cap.length ≤ n then
    vcRec H body E (st.push n cap) p fun e st' => match e with
      | .normal => match st'.df, st.pop st', rs with
        | [], some st'', [] => K st'' none
        | _, _, _ => False
      | .ret => match st'.df, st.pop st', rs with
        | [], some st'', [] => K st'' none
        | _, _, _ => False
      | _ => False
  else False

theorem lookup_enumFrom : ∀ (l : List SV) (k i : Nat) (s : SV), (enumFrom k l).lookup i = some s → k ≤ i ∧ l[i - k]? = some s
  | [], _, _, _, h => by cases h
  | t :: l, k, i, s, h => by
    simp only [enumFrom] at h
    rw [lookup_cons] at h
    split at h
    · rename_i e
      cases h
      subst e
      simp
    · rename_i e
      obtain ⟨h1, h2⟩ := lookup_enumFrom l (k + 1) i s h
      refine ⟨by omega, ?_⟩
      rw [show i - k = (i - (k + 1)) + 1 by omega, List.getElem?_cons_succ]
      exact h2

def resF (tmps : Array Value) : ResultVar → Sem Value
  | .tmp t => pure (tmps.getD t undef)
  | .cell a t => do loadVar t (← asAddr (tmps.getD a undef))

theorem loadAt_ok {P : Program} {t : Nat} {v v' : Value} {w : World} (h : (Instr.loadAt t v).run P w = .ok v' w) : (do loadVar t (← asAddr v) : Sem Value).run P w = .ok v' w := by
  unfold Instr.loadAt Instr.sureAddr at h
  unfold asAddr
  cases v with
  | pointer a =>
    cases a with
    | some a => simpa [Sem.run_bind] using h
    | none => simp [Sem.run_bind, Result.andThen, stuck] at h
  | _ => simp [Sem.run_bind, Result.andThen, stuck] at h

theorem resVal_rel {C : Cx} {l : List SV} {vs : List Value} (h : SV.rels C l vs) : (resVal l).rel C (if h : vs.toArray.size = 1 then vs.toArray[0] else .tuple vs.toArray) := by
  match l, vs, h with
  | [], vs, h =>
    obtain rfl : vs = [] := h
    exact ⟨[], rfl, rfl⟩
  | [s], vs, h =>
    obtain ⟨v, r, rfl, h1, h2⟩ := h
    obtain rfl : r = [] := h2
    exact h1
  | s :: s' :: l, vs, h =>
    have hh := h
    obtain ⟨v, r, rfl, h1, v', r', rfl, h2, h3⟩ := h
    exact ⟨_, by simp, hh⟩

section
variable {E : Env} {gl : Gl} {H : Hints} {B : Base} {ρ : Nat → Value} {st : St} {a : Act} {fs : List Act} {w : World}

theorem push_rel (h : StRel B ρ st a fs w) {args : List SV} {vs : List Value} (hr : SV.rels (cx B ρ st.hp w) args vs) {n : Nat} (hn : args.length ≤ n) :
    StRel B ρ (st.push n args) { tmps := vs.toArray ++ Array.replicate (n - vs.toArray.size) undef, defers := [] } (a :: fs) w := by
  have hl := rels_length hr
  refine ⟨h.h, ⟨?_, fun i s hs => ?_⟩, (fun t b hb => by cases hb), ⟨a, fs, rfl, ⟨rfl, fun i s hs => ?_⟩, h.d, h.k⟩, rfl, h.g⟩
  · simp [St.push]; omega
  · obtain ⟨_, h2⟩ := lookup_enumFrom args 0 i s hs
    obtain ⟨v, hv, hrel⟩ := rels_get hr h2
    have hi := (List.getElem?_eq_some_iff.1 hv).1
    simp only [Nat.sub_zero] at hv hi
    refine ⟨by show i < n; omega, ?_⟩
    rw [Array.getD_eq_getD_getElem?, Array.getElem?_append_left (by simpa using hi)]
    simp only [List.getElem?_toArray, hv, Option.getD_some]
    exact hrel
  · have := h.s.2 i s hs
    rw [h.s.1]
    exact this

theorem pop_rel {st' st'' : St} {a' : Act} {ρ' : Nat → Value} {w' : World} (h : StRel B ρ st a fs w) (hp : st.pop st' = some st'') (h' : StRel B ρ' st' a' (a :: fs) w') : StRel B ρ' st'' a fs w' := by
  unfold St.pop at hp
  split at hp
  · rename_i sl df r e
    cases hp
    have hk := h'.k
    rw [e] at hk
    obtain ⟨t, rr, e2, h1, h3, h2⟩ := hk
    cases e2
    exact ⟨h'.h, by rw [← h.s.1]; exact h1, h.kn, h2, h3, h'.g⟩
  · cases hp

theorem resSV_rel (hE : E.toTy.Ok) : ∀ {rs : List ResultVar} {o : List Prop} {l : List SV}, resSV E.toTy st rs = some (o, l) → StRel B ρ st a fs w → (∀ p ∈ o, p) →
    ∃ vs, (rs.mapM (resF a.tmps)).run E.P w = .ok vs w ∧ SV.rels (cx B ρ st.hp w) l vs
  | [], o, l, h, hr, ho => by
    simp only [resSV, Option.some.injEq, Prod.mk.injEq] at h
    obtain ⟨rfl, rfl⟩ := h
    exact ⟨[], rfl, rfl⟩
  | .tmp t :: rs, o, l, h, hr, ho => by
    simp only [resSV] at h
    split at h
    · rename_i o' r e
      cases h
      obtain ⟨vs, h1, h2⟩ := resSV_rel hE e hr ho
      refine ⟨a.tmps.getD t undef :: vs, ?_, _, _, rfl, ev_rel hr (.tmp t), h2⟩
      simp only [List.mapM_cons, resF, Sem.run_bind, Sem.run_pure, Result.andThen_ok, h1]
    · cases h
  | .cell b t :: rs, o, l, h, hr, ho => by
    simp only [resSV] at h
    split at h
    · rename_i p s o' r e0 e
      cases h
      obtain ⟨vs, h1, h2⟩ := resSV_rel hE e hr (fun q hq => ho q (List.mem_append_right _ hq))
      obtain ⟨v', h3, h4⟩ := load_sound hE hr e0 (ev_rel hr (.tmp b))
      refine ⟨v' :: vs, ?_, _, _, rfl, h4, h2⟩
      have hl : (resF a.tmps (.cell b t)).run E.P w = .ok v' w := loadAt_ok h3
      simp only [List.mapM_cons, Sem.run_bind, hl, Result.andThen_ok, h1, Sem.run_pure]
    · cases h

theorem pop_hp {st' st'' : St} (e : st.pop st' = some st'') : st''.hp = st'.hp := by
  unfold St.pop at e
  split at e
  · cases e; rfl
  · cases e

theorem ORel.le {C C' : Cx} (h : C.le C') {p : Option SV} {o : Option Value} (hr : ORel C p o) : ORel C' p o := by
  cases p with
  | none => exact hr
  | some s => obtain ⟨v, e, h1⟩ := hr; exact ⟨v, e, h1.le h⟩

/-- An object is gone, its block turned. -/
theorem StRel.kill (h : StRel B ρ st a fs w) {m b : Nat} {o : Ob} (ho : st.hp[m]? = some (some o)) (hb : ρ m = .pointer (some ⟨b, 0, none⟩)) (x : Obj) :
    StRel B ρ { st with hp := st.hp.set m none } a fs (w.putObj b x) ∧ (cx B ρ st.hp w).le (cx B ρ (st.hp.set m none) (w.putObj b x)) := by
  have hlt := (List.getElem?_eq_some_iff.1 ho).1
  have hdead : ¬ live (st.hp.set m none) m := by
    rintro ⟨o2, ho2⟩
    rw [List.getElem?_set_self hlt] at ho2
    cases ho2
  have T : Turn B ρ ρ st.hp (st.hp.set m none) w (w.putObj b x) m (some b) := {
    N := by simp
    rho := fun _ _ => rfl
    other := fun m' o' hm ho' => by rwa [List.getElem?_set_ne (Ne.symm hm)] at ho'
    mod := fun c hc => by cases hc; exact ⟨m, ⟨o, ho⟩, by rw [hb]; rfl, .inl rfl⟩
    gw := ⟨rfl, rfl, rfl, by simp, fun k hk hne => World.putObj_heap_other (fun e => hne (by rw [e]))⟩
    bl := fun c hc _ => absurd hc hdead }
  exact ⟨h.turn T (fun o' ho' => absurd ⟨o', ho'⟩ hdead), T.le⟩

theorem modeOf_ne (o : Option Value) : modeOf o ≠ .run := by cases o <;> simp [modeOf]

theorem callsDIn_mono {F : Fence} {n : Nat} {P : Program} {f : FuncId} {args : Array Value} {u : FrameMode} {w : World} {R R' : Ending → FrameMode → World → Prop}
    (h : CallsDIn F n P f args u w R) (hr : ∀ e u' w', R e u' w' → R' e u' w') : CallsDIn F n P f args u w R' :=
  ⟨h.1, fun c cs hu hroom => let ⟨e, u', w', fr, r, rest⟩ := h.2 c cs hu hroom; ⟨e, u', w', fr, hr _ _ _ r, rest⟩⟩

theorem leave_sound (hE : E.Ok gl) (hB : B.gl = gl) {fn : Func} {R : Ending → World → Prop} {K : St → Option SV → Prop} {tmps : Array Value}
    (hK : ∀ st p ρ w o, K st p → StRel B ρ st { tmps := tmps, defers := [] } fs w → ORel (cx B ρ st.hp w) p o → (match o with
      | none => ∃ v, (results fn tmps).run E.P w = .ok v w ∧ R (.returned v) w
      | some v => R (.panicked [{ v := v, recovered := false }]) w)) :
    ∀ (n : Nat) {st : St} {p : Option SV} {ρ : Nat → Value} {ds : List Deferred} {w : World} {o : Option Value}, vcLeave E n st p K → StRel B ρ st { tmps := tmps, defers := ds } fs w → ORel (cx B ρ st.hp w) p o →
      LeavesInM Fence.wide 0 E.P fn tmps R ds (modeOf o) w := by
  have nil : ∀ {st : St} {p : Option SV} {ρ : Nat → Value} {ds : List Deferred} {w : World} {o : Option Value}, st.df = [] → K st p → StRel B ρ st { tmps := tmps, defers := ds } fs w → ORel (cx B ρ st.hp w) p o →
      LeavesInM Fence.wide 0 E.P fn tmps R ds (modeOf o) w := by
    intro st p ρ ds w o e hk h ho
    have hd := h.d
    rw [e] at hd
    have hd : ds = [] := hd
    subst hd
    have := hK st p ρ w o hk h ho
    cases o with
    | none => exact this
    | some v => exact this
  intro n
  induction n with
  | zero =>
    intro st p ρ ds w o hk h ho
    unfold vcLeave at hk
    split at hk
    · rename_i e; exact nil e hk h ho
    · exact hk.elim
  | succ n ih =>
    intro st p ρ ds w o hk h ho
    unfold vcLeave at hk
    split at hk
    · rename_i e; exact nil e hk h ho
    · rename_i m l e
      split at hk
      · rename_i hm
        have hd := h.d
        rw [e] at hd
        obtain ⟨b, r, e1, hlt, hρ, hd2⟩ := hd
        have e1 : ds = _ := e1
        subst e1
        have hρ : ρ m = _ := hρ
        obtain ⟨b', hb', hbk⟩ := h.h.obj m _ hm
        rw [hρ] at hb'
        cases hb'
        obtain ⟨h1, h2⟩ := h.kill hm hρ (.deferred none)
        refine ⟨modeOf_ne o, .inl ⟨b, _, rfl, run_takeDeferred hbk, ?_⟩⟩
        exact ih hk ⟨h1.h, h1.s, h1.kn, h1.k, hd2.le h2, h1.g⟩ (ho.le h2)
      · exact hk.elim
    · rename_i f cap l e
      split at hk
      · rename_i d hf
        have hd := h.d
        rw [e] at hd
        obtain ⟨vs, r, e1, hcr, hd2⟩ := hd
        have e1 : ds = _ := e1
        subst e1
        obtain ⟨henter, hcall⟩ := hE.df f d hf
        have h' : StRel B ρ { st with df := l } { tmps := tmps, defers := r } fs w := ⟨h.h, h.s, h.kn, h.k, hd2, h.g⟩
        refine ⟨modeOf_ne o, .inr ⟨fun h => (by cases h), .func f, vs.toArray, f, vs.toArray, rfl, ?_, fun _ _ => trivial, ?_⟩⟩
        · simp only [invoke]
          rw [henter]
          congr 2
          simp
        · refine callsDIn_mono (hcall _ _ _ _ B ρ _ fs w vs o hB hk h' hcr ho) (fun en u w' hw => ?_)
          cases en with
          | returned v =>
            obtain ⟨st', p', ρ', o', h1, h2, h3, h4⟩ := hw
            dsimp only
            rw [h4]
            exact ih h1 h2 h3
          | panicked ch => exact hw.elim
          | outgrown => exact hw.elim
      · exact hk.elim

theorem fn_sound (hE : E.Ok gl) {f : Nat} {fn : Func} {body : Code} (hf : E.P.funcs[f]? = some fn) (hb : fn.body = some body) (hrnd : E.rnd = false) (hB : B.gl = gl) (hy : ∀ hd, E.yld = some hd → YieldOk E.P B (a :: fs) hd)
    {args : List SV} {vs : List Value} {kv kp : SV → St → Prop} (hc : vcFn E H fn.ntmps fn.results.toList body args st kv kp) (h : StRel B ρ st a fs w) (hr : SV.rels (cx B ρ st.hp w) args vs) : Calls E.P f vs.toArray w (CallPost B a fs kv kp) := by
  unfold vcFn at hc
  split at hc
  · rename_i hlen
    refine callsIn_wide.1 (callsIn_of_wp_marks (F := Fence.wide) (n := 0) hf hb trivial (wpIn_mono (vcCode_sound body hE hB hy (r := none) (fun _ => rfl) hc (push_rel h hr hlen)) (fun e a' w' hq => ?_)))
    have out : ∀ {st' : St} {p : Option SV} {ρ' : Nat → Value} {w' : World} {o : Option Value}, vcOut E fn.results.toList st kv kp st' p → StRel B ρ' st' { tmps := a'.tmps, defers := [] } (a :: fs) w' → ORel (cx B ρ' st'.hp w') p o → (match o with
        | none => ∃ v, (results fn a'.tmps).run E.P w' = .ok v w' ∧ CallPost B a fs kv kp (.returned v) w'
        | some v => CallPost B a fs kv kp (.panicked [{ v := v, recovered := false }]) w') := by
      intro st' p ρ' w' o hk hr' ho
      unfold vcOut at hk
      split at hk
      · rename_i st'' e2
        have ho : o = none := ho
        subst ho
        split at hk
        · rename_i o l e1
          obtain ⟨ho, hk⟩ := conj_all hk
          obtain ⟨vs', h1, h2⟩ := resSV_rel hE.ty e1 hr' ho
          have h3 := pop_rel h e2 hr'
          have hres : (results fn a'.tmps).run E.P w' = .ok (if h : vs'.toArray.size = 1 then vs'.toArray[0] else .tuple vs'.toArray) w' := by
            have e : results fn a'.tmps = (do let vs ← fn.results.mapM (resF a'.tmps); pure (if h : vs.size = 1 then vs[0] else .tuple vs)) := by
              unfold results
              congr 1
            rw [e, Array.mapM_eq_mapM_toList]
            simp only [Sem.run_bind, Sem.run_map, h1, Result.andThen_ok, Sem.run_pure]
          refine ⟨_, hres, resVal l, st'', ρ', hk, h3, ?_⟩
          rw [pop_hp e2]
          exact resVal_rel h2
        · exact hk.elim
      · rename_i s st'' e2
        obtain ⟨v, rfl, hv⟩ := ho
        exact ⟨v, s, st'', ρ', rfl, hk, pop_rel h e2 hr', by rw [pop_hp e2]; exact hv⟩
      · exact hk.elim
    have leave : ∀ {st' : St} {p : Option SV} {ρ' : Nat → Value} {o : Option Value}, vcLeave E st'.df.length st' p (vcOut E fn.results.toList st kv kp) → StRel B ρ' st' a' (a :: fs) w' → ORel (cx B ρ' st'.hp w') p o →
        LeavesInM Fence.wide 0 E.P fn a'.tmps (CallPost B a fs kv kp) a'.defers (modeOf o) w' := fun hk hr' ho =>
      leave_sound hE hB (fun _ _ _ _ _ h1 h2 h3 => out h1 h2 h3) _ hk hr' ho
    cases e with
    | normal => obtain ⟨st', ρ', h1, h2⟩ := hq; exact leave (o := none) h1 h2 rfl
    | ret => obtain ⟨st', ρ', h1, h2⟩ := hq; exact leave (o := none) h1 h2 rfl
    | panic ch => obtain ⟨v, s, st', ρ', rfl, h1, h2, h3⟩ := hq; exact leave (o := some v) h1 h2 ⟨v, rfl, h3⟩
    | exit id => obtain ⟨st', ρ', h1, h2⟩ := hq; exact h1.elim
    | goto l => exact hq.elim
    | outgrown => exact hq.elim
  · exact hc.elim

theorem fn_enter {P : Program} {f : Nat} {fn : Func} {body : Code} (hf : P.funcs[f]? = some fn) (hn : (fn.name == "runtime.NumGoroutine") = false) (hb : fn.body = some body) (args : Array Value) (w : World) : (callFunc f args).run P w = .ok (.enter f args) w := by
  unfold callFunc
  have hn' : ¬ fn.name = "runtime.NumGoroutine" := by simpa using hn
  simp [Sem.run_bind, hf, hn', hb]

theorem callOk_fn (hE : E.Ok gl) {f : Nat} {fn : Func} {body : Code} (hf : E.P.funcs[f]? = some fn) (hn : (fn.name == "runtime.NumGoroutine") = false) (hb : fn.body = some body) (hq : E.yld.isNone = true) (hrnd : E.rnd = false) :
    CallOk E.P gl f (vcFn E H fn.ntmps fn.results.toList body) := fun args st kv kp B ρ a fs w vs hB hc h hr =>
  .inl ⟨fn_enter hf hn hb _ _, fn_sound hE hf hb hrnd hB (fun hd e => by rw [e] at hq; cases hq) hc h hr⟩

theorem seqOk_fn (hE : E.Ok gl) {f : Nat} {fn : Func} {body : Code} (hf : E.P.funcs[f]? = some fn) (hn : (fn.name == "runtime.NumGoroutine") = false) (hb : fn.body = some body) (hrnd : E.rnd = false) :
    SeqOk E.P gl f (vcSeq E H fn.ntmps fn.results.toList body) :=
  ⟨fn_enter hf hn hb, fun hh args st kv kp B ρ a fs w vs hB hy hc h hr =>
    fn_sound (E := { E with yld := some hh }) ⟨hE.ty, hE.fn, hE.seq, hE.df, hE.mixed⟩ hf hb hrnd hB (fun hd e => by cases e; exact hy) hc h hr⟩

/-! ### Deferred functions -/
theorem still_ops (hE : E.Ok gl) {ops : Array Oper} {Q : Exit → Act → List Frame → World → Prop} {cs : List Frame} {k : St → Prop} : ∀ (l : List Oper) (i : Nat) {ρ : Nat → Value} {st : St} {a : Act}, (∀ j, l[j]? = ops[i + j]?) → vcStill E l st k → StRel B ρ st a fs w →
    (∀ st' ρ' a', k st' → StRel B ρ' st' a' fs w → Q .normal a' cs w) → wpOpsSIn Fence.wide 0 E.P ops Q (List.range' i l.length) a cs w
  | [], _, ρ, st, a, _, hk, h, hn => hn st ρ a hk h
  | o :: l, i, ρ, st, a, hl, hk, h, hn => by
    have h0 : ops[i]? = some o := by simpa using (hl 0).symm
    have hl' : ∀ j, l[j]? = ops[i + 1 + j]? := fun j => by have := hl (j + 1); simpa [Nat.add_assoc, Nat.add_comm 1 j] using this
    simp only [List.length_cons, List.range'_succ, wpOpsSIn, h0]
    refine ⟨fun _ _ => trivial, ?_⟩
    simp only [vcStill] at hk
    split at hk
    · rename_i obs s hg hop
      obtain ⟨h1, h2⟩ := conj_all hk
      obtain ⟨v, h3, h4⟩ := op1_sound hE.ty h hop h1
      obtain ⟨st2, h5, h6⟩ := setK_sound h2 h h4
      rw [if_pos (by simp [Region.wanted, hg]), h3]
      exact still_ops hE l (i + 1) hl' h5 h6 hn
    · exact hk.elim

/-- The frames below, as the panic is asked for. -/
def caught (c₀ : Frame) : Option Value → Frame
  | none => c₀
  | some v => { c₀ with mode := .panicking [{ v := v, recovered := true }] }

theorem recover_of (c₀ : Frame) (cs : List Frame) (o : Option Value) (h : c₀.mode = modeOf o) : recoverD (c₀ :: cs) = o.map fun v => (v, caught c₀ o :: cs) := by
  cases o with
  | none => simp [recoverD, h, modeOf]
  | some v => simp [recoverD, h, modeOf, caught]

theorem rec_sound (hE : E.Ok gl) (hB : B.gl = gl) (hrnd : E.rnd = false) (hyn : E.yld.isNone = true) {c₀ : Frame} {cs : List Frame} {o : Option Value} (hc0 : c₀.mode = modeOf o) :
    ∀ (c : Code) {st : St} {p : Option SV} {k : Ex → St → Prop} {ρ : Nat → Value} {a : Act} {w : World}, vcRec H c E st p k → StRel B ρ st a fs w → ORel (cx B ρ st.hp w) p o →
      c.wpSIn Fence.wide 0 E.P (fun e a' cs' w' => cs' = caught c₀ o :: cs ∧ CPost B fs k e a' w') a (c₀ :: cs) w := by
  intro c
  induction c with
  | seq x y ihx ihy =>
    intro st p k ρ a w hk h ho
    simp only [vcRec] at hk
    refine wpSIn_seq ?_
    intro b kk hb hr hF hroom
    obtain ⟨e, a', cs', w', hl, ⟨rfl, hq⟩, harr⟩ := ihx hk h ho b kk hb hr hF hroom
    refine ⟨e, a', _, w', hl, ?_, harr⟩
    cases e with
    | normal =>
      obtain ⟨st', ρ', h1, h2⟩ := hq
      exact wpSIn_of_wpIn rfl (wpIn_mono (vcCode_sound y hE hB (fun hd e => by rw [e] at hyn; cases hyn) (r := none) (fun _ => rfl) h1 h2) (fun e a' w' hq => ⟨rfl, hq⟩))
    | exit id => obtain ⟨st', ρ', h1, h2⟩ := hq; exact h1.elim
    | ret => obtain ⟨st', ρ', h1, h2⟩ := hq; exact h1.elim
    | panic ch => obtain ⟨_, _, _, _, _, h1, _⟩ := hq; exact h1.elim
    | goto l => exact hq.elim
    | outgrown => exact hq.elim
  | region id ops draw =>
    intro st p k ρ a w hk h ho
    cases draw with
    | true => simp only [vcRec] at hk
    | false =>
      simp only [vcRec] at hk
      split at hk
      · rename_i o1 rest hops
        split at hk
        · rename_i hrec
          unfold isRecover at hrec
          split at hrec
          · rename_i c1 hop hg
            simp only [Bool.and_eq_true] at hrec
            obtain ⟨hcal, hargs⟩ := hrec
            have hcal : c1.callee = .builtin .recover := by
              split at hcal
              · assumption
              · cases hcal
            have hargs : c1.args = #[] := by simpa using hargs
            refine wpSIn_region ?_
            have h0 : ops[0]? = some o1 := by
              have : ops.toList[0]? = some o1 := by rw [hops]; rfl
              simpa using this
            have hsz : ops.size = rest.length + 1 := by
              have := congrArg List.length hops
              simpa using this
            have hrun : (execOp a.eval o1).run E.P w = .ok .recover w := by
              unfold execOp
              rw [hop]
              simp [resolve, hcal, hargs, invoke, builtin]
            rw [hsz, List.range_eq_range', List.range'_succ]
            simp only [wpOpsSIn, h0]
            refine ⟨fun _ _ => trivial, ?_⟩
            rw [if_pos (by simp [Region.wanted, hg]), hrun]
            simp only
            rw [recover_of c₀ cs o hc0]
            have tail : ∀ (v : Value), (recSV p).rel (cx B ρ st.hp w) v → wpOpsSIn Fence.wide 0 E.P ops (fun e a' cs' w' => cs' = caught c₀ o :: cs ∧ CPost B fs k e a' w') (List.range' (0 + 1) rest.length) (a.put o1.dst v) (caught c₀ o :: cs) w := by
              intro v hv
              obtain ⟨st2, h5, h6⟩ := setK_sound hk h hv
              refine still_ops hE rest 1 (fun j => ?_) h5 h6 (fun st' ρ' a' hs hr => ⟨rfl, _, _, hs, hr.trim _⟩)
              have : ops.toList[j + 1]? = rest[j]? := by rw [hops]; rfl
              rw [← this, Nat.add_comm 1 j]; simp
            cases o with
            | none =>
              simp only [Option.map_none]
              refine tail .nilIface ?_
              cases p with
              | none => exact rfl
              | some s => obtain ⟨v, e, _⟩ := ho; cases e
            | some v =>
              simp only [Option.map_some]
              refine tail v ?_
              cases p with
              | none => cases ho
              | some s => obtain ⟨v', e, hv⟩ := ho; cases e; exact hv
          · cases hrec
        · exact hk.elim
      · exact hk.elim
  | _ => intro st p k ρ a w hk h ho; simp only [vcRec] at hk

theorem defOk_fn (hE : E.Ok gl) {f : Nat} {fn : Func} {body : Code} (hf : E.P.funcs[f]? = some fn) (hn : (fn.name == "runtime.NumGoroutine") = false) (hb : fn.body = some body) (hq : E.yld.isNone = true) (hrnd : E.rnd = false) :
    DefOk E.P gl f (vcDef E H fn.ntmps fn.results.toList body) := by
  refine ⟨fn_enter hf hn hb, fun cap st p K B ρ a fs w vs o hB hc h hr ho => ?_⟩
  unfold vcDef at hc
  split at hc
  · rename_i hlen
    refine callsDIn_of_wpSIn hf hb trivial (fun c₀ cs hc0 => ?_)
    have hw := rec_sound hE hB hrnd hq (c₀ := c₀) (cs := cs) hc0 body hc (push_rel h hr hlen) (by exact ho)
    intro b kk hb' hr' hF hroom
    obtain ⟨e, a', cs', w', hl, ⟨rfl, hqq⟩, harr⟩ := hw b kk hb' hr' hF hroom
    refine ⟨e, a', _, w', hl, ?_, harr⟩
    have fin : ∀ {st' : St} {ρ' : Nat → Value}, (match st'.df, st.pop st', fn.results.toList with
        | [], some st'', [] => K st'' none
        | _, _, _ => False) → StRel B ρ' st' a' (a :: fs) w' → a'.defers = [] ∧ ∃ u', caught c₀ o :: cs = { c₀ with mode := u' } :: cs ∧ ∃ v, (results fn a'.tmps).run E.P w' = .ok v w' ∧ DefPost B a fs K (.returned v) u' w' := by
      intro st' ρ' hk hr2
      split at hk
      · rename_i st'' e1 e2 e3
        have hd := hr2.d
        rw [e1] at hd
        have hres : (results fn a'.tmps).run E.P w' = .ok (.tuple #[]) w' := by
          have e : fn.results = #[] := by apply Array.ext'; simpa using e3
          unfold results
          simp [e]
        refine ⟨hd, (caught c₀ o).mode, ?_, _, hres, st'', none, ρ', none, hk, pop_rel h e2 hr2, rfl, ?_⟩
        · cases o <;> rfl
        · cases o with
          | none => simp only [caught]; rw [hc0]; rfl
          | some v => simp [caught, settle, modeOf]
      · exact hk.elim
    cases e with
    | normal => obtain ⟨st', ρ', h1, h2⟩ := hqq; exact fin h1 h2
    | ret => obtain ⟨st', ρ', h1, h2⟩ := hqq; exact fin h1 h2
    | panic ch => obtain ⟨_, _, _, _, _, h1, _⟩ := hqq; exact h1.elim
    | exit id => obtain ⟨st', ρ', h1, h2⟩ := hqq; exact h1.elim
    | goto l => exact hqq.elim
    | outgrown => exact hqq.elim
  · exact hc.elim
end
end Go.Vc
end
section
/- Contracts of functions over data. -/
namespace Go.Vc
open Go.RowKit

/-- An argument or a result: data that is read alone, or a row that is given away. -/
inductive AK where
  | dat (k : Kd)
  | own (e : Nat) (k : Kd)

@[reducible] def AK.T : AK → Type
  | .dat k => k.T
  | .own _ k => List k.T

@[reducible] def ATup : List AK → Type
  | [] => Unit
  | a :: l => a.T × ATup l

def AK.wf : (a : AK) → a.T → Prop
  | .dat k, x => k.wf x
  | .own _ k, xs => Kd.wf (.sl k) xs

def ATup.wf : (l : List AK) → ATup l → Prop
  | [], _ => True
  | a :: l, x => a.wf x.1 ∧ ATup.wf l x.2

/-- No memory behind it. -/
def Kd.flat : Kd → Bool
  | .sl _ => false
  | .pair a b => a.flat && b.flat
  | _ => true
def AK.flat : AK → Bool
  | .dat k => k.flat
  | .own _ k => k.flat

def acx (w : World) (F : Nat → Prop) : Cx := ⟨w, F, fun _ => undef, 0, 0⟩

def ARep (w : World) (F : Nat → Prop) : (a : AK) → a.T → Value → Prop
  | .dat k, x, v => VRep w F k x v
  | .own e k, xs, v => (Ob.row e k xs).rel (acx w F) v

def AReps (w : World) (F : Nat → Prop) : (l : List AK) → ATup l → List Value → Prop
  | [], _, vs => vs = []
  | a :: l, x, vs => ∃ v r, vs = v :: r ∧ ARep w F a x.1 v ∧ AReps w F l x.2 r

def handles : List AK → List Value → List Value
  | .own _ _ :: l, v :: r => v :: handles l r
  | .dat _ :: l, _ :: r => handles l r
  | _, _ => []

def ownBlk (l : List AK) (vs : List Value) (b : Nat) : Prop := ∃ v ∈ handles l vs, blk v = some b
def ownSep (l : List AK) (vs : List Value) : Prop := ∀ (i j : Nat) (v u : Value) (b : Nat), (handles l vs)[i]? = some v → (handles l vs)[j]? = some u → blk v = some b → blk u = some b → i = j

structure Con where
  args : List AK
  res : List AK
  pre : ATup args → Prop
  post : ATup args → ATup res → Prop
  /-- May it panic; with a value of which type, of which kind. -/
  pan : Bool := false
  pt : Nat := 0
  pk : Kd := .unit
  ppost : ATup args → pk.T → Prop := fun _ _ => False

def resOf (us : List Value) : Value := if h : us.toArray.size = 1 then us.toArray[0] else .tuple us.toArray

def Con.returns (c : Con) (w : World) (Fb : Nat → Prop) (x : ATup c.args) (vs : List Value) (en : Ending) (w' : World) : Prop :=
  ∃ us y, en = .returned (resOf us) ∧ c.post x y ∧ Kept (ownBlk c.args vs) w w' ∧
      AReps w' (fun b => Fb b ∨ ownBlk c.res us b) c.res y us ∧ ownSep c.res us ∧ ∀ b, ownBlk c.res us b → w.heap.size ≤ b ∨ ownBlk c.args vs b
def Con.panics (c : Con) (w : World) (x : ATup c.args) (vs : List Value) (en : Ending) (w' : World) : Prop :=
  c.pan = true ∧ c.pk.flat = true ∧ ∃ u y, en = .panicked [{ v := .iface c.pt u, recovered := false }] ∧ c.ppost x y ∧ Kept (ownBlk c.args vs) w w' ∧ VRep w' (fun _ => False) c.pk y u

def Con.holds (P : Program) (gl : Gl) (f : Nat) (c : Con) : Prop :=
  ∀ (w : World) (Fb : Nat → Prop) (x : ATup c.args) (vs : List Value), (∀ b, Fb b → b < w.heap.size ∧ ¬ ownBlk c.args vs b) → GlOk gl w (fun b => Fb b ∨ ownBlk c.args vs b) →
    AReps w (fun b => Fb b ∨ ownBlk c.args vs b) c.args x vs → ownSep c.args vs → c.pre x →
    Calls P f vs.toArray w fun en w' => c.returns w Fb x vs en w' ∨ c.panics w x vs en w'

/-! ### What the walk sees of it -/
def canA : (l : List AK) → ATup l → Nat → List SV
  | [], _, _ => []
  | .dat k :: l, x, n => .dat k x.1 :: canA l x.2 n
  | .own _ _ :: l, x, n => .own n :: canA l x.2 (n + 1)
def canH : (l : List AK) → ATup l → List (Option Ob)
  | [], _ => []
  | .dat _ :: l, x => canH l x.2
  | .own e k :: l, x => some (.row e k x.1) :: canH l x.2

def resSVs : List AK → SV → Option (List SV)
  | [_], s => some [s]
  | _, .tup l => some l
  | _, _ => none

def resT (st : St) : (l : List AK) → List SV → Option (ATup l)
  | [], [] => some ()
  | .dat k :: l, s :: r => match st.asData k s, resT st l r with
    | some x, some y => some (x, y)
    | _, _ => none
  | .own e k :: l, .own n :: r => match st.hp[n]?, resT st l r with
    | some (some (.row e' k' xs)), some y => if h : k' = k then (if e' = e then some (castL h xs, y) else none) else none
    | _, _ => none
  | .own _ _ :: l, .cst c :: r => if nilSlice c then (match resT st l r with
      | some y => some ([], y)
      | none => none) else none
  | _, _ => none

def ownsO : List AK → List SV → List (Option Nat)
  | .own _ _ :: l, .own n :: r => some n :: ownsO l r
  | .own _ _ :: l, _ :: r => none :: ownsO l r
  | .dat _ :: l, _ :: r => ownsO l r
  | _, _ => []
def ownsR (l : List AK) (r : List SV) : List Nat := (ownsO l r).filterMap id
def takenR : List AK → List SV → List Nat
  | .dat _ :: l, s :: r => s.names ++ takenR l r
  | .own _ _ :: l, _ :: r => takenR l r
  | _, _ => []
def apartB (l : List AK) (r : List SV) : Bool := nodupB (ownsR l r) && (takenR l r).all fun m => !(ownsR l r).contains m

def St.resK (st : St) (res : List AK) (s : SV) (K : ATup res → Prop) : Prop :=
  match resSVs res s with
  | some l => if apartB res l then
      match resT st res l with
      | some y => K y
      | none => False
    else False
  | none => False

/-- What is asked where it panics. -/
def Con.panK (c : Con) (x : ATup c.args) (s : SV) : Prop :=
  match s with
  | .ifc t s' => if c.pan && (t == c.pt) && c.pk.flat && s'.isAgg && c.pk.isAgg then
      match s'.cells with
      | some l => match unleaf c.pk l with
        | some (y, []) => c.ppost x y
        | _ => False
      | none => False
    else False
  | _ => False

/-- What is asked of a function's body. -/
def Con.vc (c : Con) (gl : Gl) (E : Env) (H : Hints) (n : Nat) (rs : List ResultVar) (body : Code) : Prop :=
  ∀ x, ATup.wf c.args x → c.pre x → vcFn E H n rs body (canA c.args x 0) { n := 0, sl := [], hp := canH c.args x, gl := gl } (fun s st => st.resK c.res s (c.post x)) (fun s _ => c.panK x s)

theorem flat_rep {w w' : World} {F F' : Nat → Prop} : ∀ {k : Kd} {x : k.T} {cs : List Value}, k.flat = true → Rep w F k x cs → Rep w' F' k x cs
  | .int _, _, _, _, h => h
  | .bool, _, _, _, h => h
  | .str, _, _, _, h => h
  | .sl _, _, _, hk, _ => by cases hk
  | .pair a b, _, _, hk, h => by
    simp only [Kd.flat, Bool.and_eq_true] at hk
    obtain ⟨c1, c2, e, h1, h2⟩ := h
    exact ⟨c1, c2, e, flat_rep hk.1 h1, flat_rep hk.2 h2⟩
  | .unit, _, _, _, h => h
  | .err, _, _, _, h => h

/-- Over to another set of blocks that are not read. -/
theorem ARep.over {w : World} {F F' : Nat → Prop} : ∀ {a : AK} {x : a.T} {v : Value}, (a.flat = true ∨ ∀ b, b < w.heap.size → F' b → F b) → ARep w F a x v → ARep w F' a x v
  | .dat k, x, v, h, hr => by
    obtain ⟨cs, h1, h2⟩ := hr
    rcases h with h | h
    · exact ⟨cs, flat_rep h h1, h2⟩
    · exact ⟨cs, h1.mono h, h2⟩
  | .own e k, xs, v, h, hr => by
    obtain ⟨inner, h1, h2⟩ := hr
    refine ⟨inner, h1, fun i x hx => ?_⟩
    rcases h with h | h
    · exact flat_rep (k := k) h (h2 i x hx)
    · exact (h2 i x hx).mono h

theorem AReps.wf {w : World} {F : Nat → Prop} : ∀ {l : List AK} {x : ATup l} {vs : List Value}, AReps w F l x vs → ATup.wf l x
  | [], _, _, _ => trivial
  | .dat k :: l, x, vs, h => by
    obtain ⟨v, r, _, h1, h2⟩ := h
    exact ⟨as_wf h1, AReps.wf h2⟩
  | .own e k :: l, x, vs, h => by
    obtain ⟨v, r, _, h1, h2⟩ := h
    exact ⟨row_wf h1, AReps.wf h2⟩

theorem canH_len : ∀ {l : List AK} {x : ATup l} {w : World} {F : Nat → Prop} {vs : List Value}, AReps w F l x vs → (handles l vs).length = (canH l x).length
  | [], _, _, _, vs, h => by
    obtain rfl : vs = [] := h
    rfl
  | .dat k :: l, x, w, F, vs, h => by
    obtain ⟨v, r, rfl, h1, h2⟩ := h
    simp only [handles, canH]
    exact canH_len h2
  | .own e k :: l, x, w, F, vs, h => by
    obtain ⟨v, r, rfl, h1, h2⟩ := h
    simp [handles, canH, canH_len h2]

theorem can_rel {C : Cx} {F : Nat → Prop} : ∀ {l : List AK} {x : ATup l} {vs : List Value} {n : Nat}, AReps C.w F l x vs → (l.all AK.flat = true ∨ ∀ b, b < C.w.heap.size → C.F b → F b) → n + (canH l x).length ≤ C.N →
    (∀ (i : Nat) (v : Value), (handles l vs)[i]? = some v → C.ρ (n + i) = v) → SV.rels C (canA l x n) vs
  | [], _, vs, _, h, _, _, _ => h
  | .dat k :: l, x, vs, n, h, hF, hN, hρ => by
    obtain ⟨v, r, rfl, h1, h2⟩ := h
    refine ⟨v, r, rfl, ?_, can_rel h2 (hF.imp (fun h => (by simp at h ⊢; exact h.2)) id) hN hρ⟩
    exact ARep.over (a := .dat k) (hF.imp (fun h => (by simp at h; exact h.1)) id) h1
  | .own e k :: l, x, vs, n, h, hF, hN, hρ => by
    obtain ⟨v, r, rfl, h1, h2⟩ := h
    simp only [canH, List.length_cons] at hN
    refine ⟨v, r, rfl, ⟨by omega, (hρ 0 v rfl).symm, ?_⟩, can_rel h2 (hF.imp (fun h => (by simp at h ⊢; exact h.2)) id) (by omega) (fun i u hu => by rw [show n + 1 + i = n + (i + 1) by omega]; exact hρ (i + 1) u hu)⟩
    obtain ⟨inner, h3, _⟩ := h1
    rcases h3.form.2 with ⟨rfl, _⟩ | ⟨g, cap, cur, e0, fz, rfl, _⟩
    · exact ⟨_, _, _, rfl⟩
    · exact ⟨_, _, _, rfl⟩

theorem canH_rel {w : World} {F F' : Nat → Prop} : ∀ {l : List AK} {x : ATup l} {vs : List Value}, AReps w F l x vs → (l.all AK.flat = true ∨ ∀ b, b < w.heap.size → F' b → F b) →
    ∀ (i : Nat) (ob : Ob), (canH l x)[i]? = some (some ob) → ∃ v, (handles l vs)[i]? = some v ∧ ∀ C : Cx, C.w = w → C.F = F' → ob.rel C v
  | [], _, vs, _, _, i, ob, h => by simp [canH] at h
  | .dat k :: l, x, vs, h, hF, i, ob, ho => by
    obtain ⟨v, r, rfl, h1, h2⟩ := h
    exact canH_rel h2 (hF.imp (fun h => (by simp at h ⊢; exact h.2)) id) i ob ho
  | .own e k :: l, x, vs, h, hF, i, ob, ho => by
    obtain ⟨v, r, rfl, h1, h2⟩ := h
    cases i with
    | zero =>
      simp only [canH, List.getElem?_cons_zero, Option.some.injEq] at ho
      subst ho
      refine ⟨v, rfl, fun C e1 e2 => ?_⟩
      obtain ⟨inner, h3, h4⟩ := ARep.over (a := .own e k) (hF.imp (fun h => (by simp at h; exact h.1)) id) h1
      exact ⟨inner, by rw [e1]; exact h3, by rw [e1, e2]; exact h4⟩
    | succ i =>
      simp only [canH, List.getElem?_cons_succ] at ho
      exact canH_rel h2 (hF.imp (fun h => (by simp at h ⊢; exact h.2)) id) i ob ho

section
variable {B : Base} {ρ : Nat → Value} {st : St} {a : Act} {fs : List Act} {w : World}

/-- The rows that are given, by their names. -/
theorem owns_at (h : StRel B ρ st a fs w) : ∀ {l : List AK} {r : List SV} {vs : List Value} {y : ATup l}, resT st l r = some y → SV.rels (cx B ρ st.hp w) r vs →
    ∀ (i : Nat) (v : Value), (handles l vs)[i]? = some v → ∃ o, (ownsO l r)[i]? = some o ∧ ∀ b, blk v = some b → ∃ m, o = some m ∧ v = ρ m ∧ live st.hp m
  | [], r, vs, y, hy, hr, i, v, hv => by
    cases vs <;> simp [handles] at hv
  | .dat k :: l, [], vs, y, hy, hr, i, v, hv => by simp [resT] at hy
  | .own e k :: l, [], vs, y, hy, hr, i, v, hv => by simp [resT] at hy
  | .dat k :: l, s :: r, vs, y, hy, hr, i, v, hv => by
    obtain ⟨u, us, rfl, h1, h2⟩ := hr
    simp only [resT] at hy
    split at hy
    · rename_i x y' e1 e2
      exact owns_at h e2 h2 i v hv
    · cases hy
  | .own e k :: l, s :: r, vs, y, hy, hr, i, v, hv => by
    obtain ⟨u, us, rfl, h1, h2⟩ := hr
    cases s <;> simp only [resT] at hy <;> try (cases hy; done)
    case own n =>
      split at hy
      · rename_i e' k' xs y' e1 e2
        cases i with
        | zero =>
          simp only [handles, List.getElem?_cons_zero, Option.some.injEq] at hv
          subst hv
          exact ⟨some n, rfl, fun b _ => ⟨n, rfl, h1.2.1, ⟨_, e1⟩⟩⟩
        | succ i => exact owns_at h e2 h2 i v hv
      · cases hy
    case cst c =>
      split at hy
      · rename_i hn
        split at hy
        · rename_i y' e2
          cases i with
          | zero =>
            simp only [handles, List.getElem?_cons_zero, Option.some.injEq] at hv
            subst hv
            refine ⟨none, rfl, fun b hb => ?_⟩
            have : u = c := h1
            rw [this, nilSlice_eq hn] at hb
            cases hb
          | succ i => exact owns_at h e2 h2 i v hv
        · cases hy
      · cases hy

theorem nodup_opt : ∀ {os : List (Option Nat)} {i j m : Nat}, nodupB (os.filterMap id) = true → os[i]? = some (some m) → os[j]? = some (some m) → i = j
  | [], i, j, m, _, hi, _ => by simp at hi
  | o :: os, i, j, m, hn, hi, hj => by
    have hn' : nodupB (os.filterMap id) = true ∧ ∀ m', o = some m' → m' ∉ os.filterMap id := by
      cases o with
      | none => exact ⟨by simpa using hn, fun m' e => by cases e⟩
      | some m' =>
        simp only [List.filterMap_cons, id, nodupB, Bool.and_eq_true, Bool.not_eq_true'] at hn
        refine ⟨hn.2, fun m'' e => ?_⟩
        cases e
        simpa using hn.1
    have mem : ∀ {i : Nat}, os[i]? = some (some m) → m ∈ os.filterMap id := fun h => List.mem_filterMap.2 ⟨some m, List.mem_iff_getElem?.2 ⟨_, h⟩, rfl⟩
    cases i with
    | zero =>
      cases j with
      | zero => rfl
      | succ j =>
        simp only [List.getElem?_cons_zero, Option.some.injEq, List.getElem?_cons_succ] at hi hj
        exact absurd (mem hj) (hn'.2 m hi)
    | succ i =>
      cases j with
      | zero =>
        simp only [List.getElem?_cons_zero, Option.some.injEq, List.getElem?_cons_succ] at hi hj
        exact absurd (mem hi) (hn'.2 m hj)
      | succ j =>
        simp only [List.getElem?_cons_succ] at hi hj
        rw [nodup_opt hn'.1 hi hj]

theorem owns_sep (h : StRel B ρ st a fs w) {l : List AK} {r : List SV} {vs : List Value} {y : ATup l} (hy : resT st l r = some y) (hr : SV.rels (cx B ρ st.hp w) r vs) (hn : nodupB (ownsR l r) = true) : ownSep l vs := by
  intro i j v u b hi hj hv hu
  obtain ⟨o1, h1, h2⟩ := owns_at h hy hr i v hi
  obtain ⟨o2, h3, h4⟩ := owns_at h hy hr j u hj
  obtain ⟨m1, rfl, rfl, hl1⟩ := h2 b hv
  obtain ⟨m2, rfl, rfl, hl2⟩ := h4 b hu
  have := h.h.sep m1 m2 b hl1 hl2 hv hu
  subst this
  exact nodup_opt hn h1 h3

theorem owns_blk (h : StRel B ρ st a fs w) {l : List AK} {r : List SV} {vs : List Value} {y : ATup l} (hy : resT st l r = some y) (hr : SV.rels (cx B ρ st.hp w) r vs) {b : Nat} (hb : ownBlk l vs b) :
    ∃ m, m ∈ ownsR l r ∧ live st.hp m ∧ blk (ρ m) = some b := by
  obtain ⟨v, hv, hvb⟩ := hb
  obtain ⟨i, hi⟩ := List.mem_iff_getElem?.1 hv
  obtain ⟨o, h1, h2⟩ := owns_at h hy hr i v hi
  obtain ⟨m, rfl, rfl, hl⟩ := h2 b hvb
  exact ⟨m, List.mem_filterMap.2 ⟨some m, List.mem_iff_getElem?.2 ⟨_, h1⟩, rfl⟩, hl, hvb⟩

/-- What is handed over, as data. -/
theorem resT_rel (h : StRel B ρ st a fs w) {F : Nat → Prop} {srcs : List Nat} (hF : ∀ b, F b → B.Fb b ∨ ∃ m, m ∈ srcs ∧ live st.hp m ∧ blk (ρ m) = some b) :
    ∀ {l : List AK} {r : List SV} {vs : List Value} {y : ATup l}, resT st l r = some y → SV.rels (cx B ρ st.hp w) r vs → (∀ m ∈ takenR l r, m ∉ srcs) → AReps w F l y vs := by
  have f : FitCx B ρ st w ⟨w, F, ρ, st.hp.length, B.lp⟩ [] srcs := ⟨rfl, fun n => by simp [handleOf, srcOf], hF, rfl⟩
  have mono : ∀ b, b < w.heap.size → F b → Forb B ρ st.hp b := fun b _ hb => by
    rcases hF b hb with h | ⟨m, _, h1, h2⟩
    · exact .inl h
    · exact .inr ⟨m, h1, h2⟩
  intro l
  induction l with
  | nil =>
    intro r vs y hy hr _
    cases r with
    | nil => exact hr
    | cons s r => simp [resT] at hy
  | cons k l ih =>
    intro r vs y hy hr ht
    cases r with
    | nil => cases k <;> simp [resT] at hy
    | cons s r =>
      obtain ⟨v, us, rfl, h1, h2⟩ := hr
      cases k with
      | dat k =>
        simp only [resT] at hy
        split at hy
        · rename_i x y' e1 e2
          cases hy
          exact ⟨v, us, rfl, asData_rel h f e1 h1 (fun m hm => ht m (by simp [takenR, hm])), ih e2 h2 (fun m hm => ht m (by simp [takenR, hm]))⟩
        · cases hy
      | own e k =>
        cases s <;> simp only [resT] at hy <;> try (cases hy; done)
        case own n =>
          split at hy
          · rename_i e' k' xs y' e1 e2
            split at hy
            · rename_i ek
              subst ek
              split at hy
              · rename_i ee
                subst ee
                cases hy
                refine ⟨v, us, rfl, ?_, ih e2 h2 (fun m hm => ht m (by simpa [takenR] using hm))⟩
                obtain ⟨inner, h3, h4⟩ := h.h.obj n _ e1
                rw [h1.2.1]
                exact ⟨inner, h3, fun i x hx => (h4 i x hx).mono mono⟩
              · cases hy
            · cases hy
          · cases hy
        case cst c =>
          split at hy
          · rename_i hn
            split at hy
            · rename_i y' e2
              cases hy
              refine ⟨v, us, rfl, ?_, ih e2 h2 (fun m hm => ht m (by simpa [takenR] using hm))⟩
              have : v = c := h1
              rw [this, nilSlice_eq hn]
              exact ⟨[], .inl ⟨by simp, .inl ⟨rfl, rfl⟩⟩, fun i x hx => by simp at hx⟩
            · cases hy
          · cases hy
end
end Go.Vc
end
section
/- A function that is walked where it is called, its ways led together. -/
namespace Go.Vc
open Go.RowKit

def joinPl : List AK → Nat → Nat → List PE × List OE
  | [], _, _ => ([], [])
  | .dat k :: l, i, N => (.var i k :: (joinPl l (i + 1) N).1, (joinPl l (i + 1) N).2)
  | .own e k :: l, i, N => (.own i N :: (joinPl l (i + 1) (N + 1)).1, .row e k :: (joinPl l (i + 1) (N + 1)).2)

def joinOb (E : Ty) (abs : Bool) (res : List AK) (st : St) : List OE :=
  let r := reach st 3 (slNames st.sl ++ (dfNames st.df ++ stkNames st.stk))
  let q := (joinPl res 0 st.hp.length).2
  let o := planOb E abs abs r (if abs then r else []) (st.hp.length + q.length) 0 st.hp
  o.1 ++ (q ++ o.2)

def vcJoinOut (E : Env) (rs : List ResultVar) (abs : Bool) (res : List AK) (st : St) (kp : SV → St → Prop) (J : PE.Tup (joinPl res 0 st.hp.length).1 → OE.Tup (joinOb E.toTy abs res st) → Prop) (st' : St) (p : Option SV) : Prop :=
  match p, st.pop st' with
  | none, _ => match resSV E.toTy st' rs with
    | some (o, l) => conj o (({ st' with n := l.length, sl := enumFrom 0 l, kn := [] } : St).fitK (joinPl res 0 st.hp.length).1 (joinOb E.toTy abs res st) ((st.sl, st.df) :: st.stk) [] st.ls fun u z => l.length = res.length ∧ J u z)
    | none => False
  | some s, some st'' => kp s st''
  | some _, none => False

def vcFnJ (E : Env) (H : Hints) (n : Nat) (rs : List ResultVar) (body : Code) (abs : Bool) (res : List AK) : CallSem := fun args st kv kp =>
  if args.length ≤ n then
    ∃ J : PE.Tup (joinPl res 0 st.hp.length).1 → OE.Tup (joinOb E.toTy abs res st) → Prop,
      (vcCode H body E (st.push n args) fun e st' => match e with
        | .normal => vcLeave E st'.df.length st' none (vcJoinOut E rs abs res st kp J)
        | .ret => vcLeave E st'.df.length st' none (vcJoinOut E rs abs res st kp J)
        | .pan s => vcLeave E st'.df.length st' (some s) (vcJoinOut E rs abs res st kp J)
        | .exit _ => False) ∧
      ∀ u z, PE.wf (joinPl res 0 st.hp.length).1 u → OE.wf (joinOb E.toTy abs res st) z → J u z → kv (resVal ((PE.mk (joinPl res 0 st.hp.length).1 u).map (·.2))) { st with hp := OE.mk (joinOb E.toTy abs res st) z }
  else False

theorem join_places : ∀ (l : List AK) (i N : Nat), PE.places (joinPl l i N).1 = List.range' i l.length
  | [], _, _ => rfl
  | .dat _ :: l, i, N => by simp only [joinPl, PE.places, join_places l, List.length_cons, List.range'_succ]
  | .own _ _ :: l, i, N => by simp only [joinPl, PE.places, join_places l, List.length_cons, List.range'_succ]

theorem slots_rels {C : Cx} {vs : List Value} : ∀ (sl : Slots) (k : Nat) (us : List Value), sl.map (·.1) = List.range' k sl.length → us.length = sl.length → (∀ j, us[j]? = vs[k + j]?) →
    (∀ i s, sl.lookup i = some s → s.rel C (vs.getD i undef)) → SV.rels C (sl.map (·.2)) us
  | [], _, us, _, hl, _, _ => List.eq_nil_of_length_eq_zero hl
  | (i, s) :: sl, k, us, hm, hl, hu, hs => by
    cases us with
    | nil => simp at hl
    | cons u us =>
      simp only [List.map_cons, List.length_cons, List.range'_succ, List.cons.injEq] at hm
      obtain ⟨rfl, hm⟩ := hm
      have h0 : some u = vs[i]? := by simpa using hu 0
      have hi := hs i s (by rw [lookup_cons, if_pos rfl])
      rw [List.getD_eq_getElem?_getD, ← h0] at hi
      refine ⟨u, us, rfl, hi, slots_rels sl (i + 1) us hm (by simpa using hl) (fun j => by
        have := hu (j + 1)
        simp only [List.getElem?_cons_succ] at this
        rw [this]; congr 1; omega) (fun j t hj => hs j t ?_)⟩
      rw [lookup_cons, if_neg]
      · exact hj
      · intro e
        subst e
        have hmem := mk_lookup hj
        have : j ∈ sl.map (·.1) := List.mem_map.2 ⟨_, hmem, rfl⟩
        rw [hm] at this
        simp [List.mem_range'] at this
        omega

section
variable {E : Env} {gl : Gl} {H : Hints} {B : Base} {ρ : Nat → Value} {st : St} {a : Act} {fs : List Act} {w : World}

theorem results_rel (hE : E.toTy.Ok) {fn : Func} {o : List Prop} {l : List SV} (e1 : resSV E.toTy st fn.results.toList = some (o, l)) (h : StRel B ρ st a fs w) (ho : ∀ p ∈ o, p) :
    ∃ vs : List Value, (results fn a.tmps).run E.P w = .ok (if h : vs.toArray.size = 1 then vs.toArray[0] else .tuple vs.toArray) w ∧ SV.rels (cx B ρ st.hp w) l vs := by
  obtain ⟨vs', h1, h2⟩ := resSV_rel hE e1 h ho
  refine ⟨vs', ?_, h2⟩
  have e : results fn a.tmps = (do let vs ← fn.results.mapM (resF a.tmps); pure (if h : vs.size = 1 then vs[0] else .tuple vs)) := by
    unfold results
    congr 1
  rw [e, Array.mapM_eq_mapM_toList]
  simp only [Sem.run_bind, Sem.run_map, h1, Result.andThen_ok, Sem.run_pure]

theorem callOk_fnJ (hE : E.Ok gl) {f : Nat} {fn : Func} {body : Code} (abs : Bool) (res : List AK) (hf : E.P.funcs[f]? = some fn) (hn : (fn.name == "runtime.NumGoroutine") = false) (hb : fn.body = some body) (hq : E.yld.isNone = true) (hrnd : E.rnd = false) :
    CallOk E.P gl f (vcFnJ E H fn.ntmps fn.results.toList body abs res) := fun args st kv kp B ρ a fs w vs hB hc h hr => by
  refine .inl ⟨fn_enter hf hn hb _ _, ?_⟩
  unfold vcFnJ at hc
  split at hc
  · rename_i hlen
    obtain ⟨J, hc, hkv⟩ := hc
    refine callsIn_wide.1 (callsIn_of_wp_marks (F := Fence.wide) (n := 0) hf hb trivial (wpIn_mono (vcCode_sound body hE hB (fun hd e => by rw [e] at hq; cases hq) (r := none) (fun _ => rfl) hc (push_rel h hr hlen)) (fun e a' w' hq => ?_)))
    have out : ∀ {st' : St} {p : Option SV} {ρ' : Nat → Value} {w' : World} {o : Option Value}, vcJoinOut E fn.results.toList abs res st kp J st' p → StRel B ρ' st' { tmps := a'.tmps, defers := [] } (a :: fs) w' → ORel (cx B ρ' st'.hp w') p o → (match o with
        | none => ∃ v, (results fn a'.tmps).run E.P w' = .ok v w' ∧ CallPost B a fs kv kp (.returned v) w'
        | some v => CallPost B a fs kv kp (.panicked [{ v := v, recovered := false }]) w') := by
      intro st' p ρ' w' o hk hr' ho
      unfold vcJoinOut at hk
      split at hk
      · have ho : o = none := ho
        subst ho
        split at hk
        · rename_i o l e1
          obtain ⟨ho, hk⟩ := conj_all hk
          obtain ⟨us, hrun, hus⟩ := results_rel hE.ty e1 hr' ho
          have hul := rels_length hus
          have h2 : StRel B ρ' { st' with n := l.length, sl := enumFrom 0 l, kn := [] } { tmps := us.toArray, defers := [] } (a :: fs) w' := by
            refine ⟨hr'.h, ⟨by simpa using hul, fun i s hs => ?_⟩, (fun t b hb => by cases hb), hr'.k, hr'.d, hr'.g⟩
            obtain ⟨_, h4⟩ := lookup_enumFrom l 0 i s hs
            obtain ⟨v, hv, hrel⟩ := rels_get hus h4
            simp only [Nat.sub_zero] at hv h4
            have hi := (List.getElem?_eq_some_iff.1 hv).1
            refine ⟨by show i < l.length; omega, ?_⟩
            rw [Array.getD_eq_getD_getElem?]
            simp only [List.getElem?_toArray, hv, Option.getD_some]
            exact hrel
          obtain ⟨ρ2, u, z, ⟨hll, hJ⟩, hu, hz, h3⟩ := fitK_sound h2 hk
          refine ⟨_, hrun, _, _, ρ2, hkv u z hu hz hJ, ?_, ?_⟩
          · obtain ⟨t, r, e, hs1, hd1, hs2⟩ := h3.k
            cases e
            exact ⟨h3.h, by rw [← h.s.1]; exact hs1, h.kn, hs2, hd1, h.g⟩
          · refine resVal_rel (slots_rels (vs := us) _ 0 us ?_ ?_ (fun j => by simp) (fun i s hs => ?_))
            · rw [mk_places, join_places]
              have := congrArg List.length (mk_places (joinPl res 0 st.hp.length).1 u)
              rw [join_places, List.length_map, List.length_range'] at this
              rw [this]
            · have := congrArg List.length (mk_places (joinPl res 0 st.hp.length).1 u)
              rw [join_places, List.length_map, List.length_range'] at this
              rw [this, hul, hll]
            · have := (h3.s.2 i s hs).2
              rw [Array.getD_eq_getD_getElem?] at this
              rw [List.getD_eq_getElem?_getD]
              simp only [List.getElem?_toArray] at this
              exact this
        · exact hk.elim
      · rename_i s st'' e2
        obtain ⟨v, rfl, hv⟩ := ho
        exact ⟨v, s, st'', ρ', rfl, hk, pop_rel h e2 hr', by rw [pop_hp e2]; exact hv⟩
      · exact hk.elim
    have leave : ∀ {st' : St} {p : Option SV} {ρ' : Nat → Value} {o : Option Value}, vcLeave E st'.df.length st' p (vcJoinOut E fn.results.toList abs res st kp J) → StRel B ρ' st' a' (a :: fs) w' → ORel (cx B ρ' st'.hp w') p o →
        LeavesInM Fence.wide 0 E.P fn a'.tmps (CallPost B a fs kv kp) a'.defers (modeOf o) w' := fun hk hr' ho =>
      leave_sound hE hB (fun _ _ _ _ _ h1 h2 h3 => out h1 h2 h3) _ hk hr' ho
    cases e with
    | normal => obtain ⟨st', ρ', h1, h2⟩ := hq; exact leave (o := none) h1 h2 rfl
    | ret => obtain ⟨st', ρ', h1, h2⟩ := hq; exact leave (o := none) h1 h2 rfl
    | panic ch => obtain ⟨v, s, st', ρ', rfl, h1, h2, h3⟩ := hq; exact leave (o := some v) h1 h2 ⟨v, rfl, h3⟩
    | exit id => obtain ⟨st', ρ', h1, h2⟩ := hq; exact h1.elim
    | goto l => exact hq.elim
    | outgrown => exact hq.elim
  · exact hc.elim
end
end Go.Vc
end
