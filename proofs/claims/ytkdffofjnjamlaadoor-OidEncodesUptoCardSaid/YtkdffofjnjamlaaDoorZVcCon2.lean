/- Contracts: of a body, and at a call. -/
import Derived.Test.YtkdffofjnjamlaaDoorZVcJoin
set_option linter.unusedVariables false
set_option linter.unusedSimpArgs false
namespace Go.Vc
open Go.RowKit

theorem resVal_of {C : Cx} {res : List AK} {s : SV} {l : List SV} {v : Value} (h : resSVs res s = some l) (hs : s.rel C v) (hl : l.length = res.length) : ∃ us, v = resOf us ∧ SV.rels C l us := by
  unfold resSVs at h
  split at h
  · cases h
    exact ⟨[v], rfl, v, [], rfl, hs, rfl⟩
  · rename_i hne
    cases h
    obtain ⟨us, rfl, hu⟩ := hs
    refine ⟨us, ?_, hu⟩
    unfold resOf
    have h1 : us.length = l.length := rels_length hu
    have : us.toArray.size ≠ 1 := by
      intro e
      simp at e
      rw [h1, hl] at e
      match res, e with
      | [x], _ => exact hne x rfl
    rw [dif_neg this]
  · cases h

theorem resT_len {st : St} : ∀ {l : List AK} {r : List SV} {y : ATup l}, resT st l r = some y → r.length = l.length
  | [], [], _, _ => rfl
  | [], _ :: _, _, h => by simp [resT] at h
  | .dat _ :: _, [], _, h => by simp [resT] at h
  | .own _ _ :: _, [], _, h => by simp [resT] at h
  | .dat k :: l, s :: r, y, h => by
    simp only [resT] at h
    split at h
    · rename_i e; simp [resT_len e]
    · cases h
  | .own e k :: l, s :: r, y, h => by
    cases s <;> simp only [resT] at h <;> try (cases h; done)
    case own n =>
      split at h
      · rename_i e; simp [resT_len e]
      · cases h
    case cst c =>
      split at h
      · split at h
        · rename_i e; simp [resT_len e]
        · cases h
      · cases h

theorem AReps.len {w : World} {F : Nat → Prop} : ∀ {l : List AK} {x : ATup l} {vs : List Value}, AReps w F l x vs → vs.length = l.length
  | [], _, vs, h => by
    obtain rfl : vs = [] := h
    rfl
  | a :: l, x, vs, h => by
    obtain ⟨v, r, rfl, _, h2⟩ := h
    simp [AReps.len h2]

/-- A contract, from the walk of the body. -/
theorem con_body {E : Env} {gl : Gl} {H : Hints} (hE : E.Ok gl) {f : Nat} {fn : Func} {body : Code} (hf : E.P.funcs[f]? = some fn) (hn : (fn.name == "runtime.NumGoroutine") = false) (hb : fn.body = some body) (hq : E.yld.isNone = true) (hrnd : E.rnd = false)
    {c : Con} (hc : c.vc gl E H fn.ntmps fn.results.toList body) : c.holds E.P gl f := by
  intro w Fb x vs hFb hgl hA hsep hpre
  have hvc := hc x hA.wf hpre
  let B : Base := ⟨fun _ => w, ownBlk c.args vs, Fb, 0, gl, fun _ => hgl⟩
  let ρ : Nat → Value := fun n => (handles c.args vs).getD n undef
  let st : St := { n := 0, sl := [], hp := canH c.args x, gl := gl }
  have hρ : ∀ (i : Nat) (v : Value), (handles c.args vs)[i]? = some v → ρ i = v := fun i v hv => by simp [ρ, List.getD_eq_getElem?_getD, hv]
  have hlen := canH_len hA
  have getL : ∀ n, live st.hp n → ∃ v, (handles c.args vs)[n]? = some v ∧ ρ n = v := fun n hl => by
    have := live_lt hl
    have h2 : n < (handles c.args vs).length := by rw [hlen]; exact this
    exact ⟨_, List.getElem?_eq_getElem h2, hρ n _ (List.getElem?_eq_getElem h2)⟩
  have hForb : ∀ b, b < w.heap.size → Forb B ρ st.hp b → Fb b ∨ ownBlk c.args vs b := fun b _ hb => by
    rcases hb with hb | ⟨n, hl, hb⟩
    · exact .inl hb
    · obtain ⟨v, hv, e⟩ := getL n hl
      exact .inr ⟨v, List.mem_iff_getElem?.2 ⟨n, hv⟩, by rw [← e]; exact hb⟩
  have hR : StRel B ρ st { tmps := #[], defers := [] } [] w := by
    refine ⟨⟨Kept.refl _ _, fun n o ho => ?_, fun n m b hn hm h1 h2 => ?_, fun n b hn h1 => ?_, fun b hb => ⟨(hFb b hb).1, (hFb b hb).2⟩⟩, ⟨rfl, fun i s hs => by cases hs⟩, (fun t b hb => by cases hb), rfl, rfl, rfl⟩
    · obtain ⟨v, hv, hr⟩ := canH_rel hA (.inr hForb) n o ho
      rw [hρ n v hv]
      exact hr _ rfl rfl
    · obtain ⟨v, hv, e1⟩ := getL n hn
      obtain ⟨u, hu, e2⟩ := getL m hm
      rw [e1] at h1
      rw [e2] at h2
      exact hsep n m v u b hv hu h1 h2
    · obtain ⟨v, hv, e1⟩ := getL n hn
      rw [e1] at h1
      have : ownBlk c.args vs b := ⟨v, List.mem_iff_getElem?.2 ⟨n, hv⟩, h1⟩
      exact ⟨.inr this, fun hc => (hFb b hc).2 this⟩
  have hargs : SV.rels (cx B ρ st.hp w) (canA c.args x 0) vs := can_rel (C := cx B ρ st.hp w) hA (.inr hForb) (by simp [st]) (fun i v hv => by rw [Nat.zero_add]; exact hρ i v hv)
  refine (fn_sound (H := H) hE hf hb hrnd rfl (fun hd e => by rw [e] at hq; cases hq) hvc hR hargs).mono fun en w' hw => ?_
  cases en with
  | panicked ch =>
    right
    obtain ⟨v, s, st', ρ', rfl, hk, hR', hs⟩ := hw
    unfold Con.panK at hk
    split at hk
    · rename_i t s'
      split at hk
      · rename_i hcond
        simp only [Bool.and_eq_true, beq_iff_eq] at hcond
        obtain ⟨⟨⟨⟨hp1, rfl⟩, hp3⟩, hp4⟩, hp5⟩ := hcond
        split at hk
        · rename_i l hl
          split at hk
          · rename_i y hy
            obtain ⟨u, rfl, hu⟩ := hs
            refine ⟨hp1, hp3, u, y, rfl, hk, hR'.h.kept, ?_⟩
            have h5 := unleaf_all hy (cells_rel hl hu)
            refine ⟨u.cells.toList, flat_rep hp3 h5, ?_⟩
            rw [if_pos hp5]
            obtain ⟨cs, rfl⟩ := isAgg_rel hp4 hu
            simp [Value.cells]
          · exact hk.elim
        · exact hk.elim
      · exact hk.elim
    · exact hk.elim
  | outgrown => exact hw.elim
  | returned v =>
    left
    obtain ⟨s, st', ρ', hk, hR', hs⟩ := hw
    unfold St.resK at hk
    split at hk
    · rename_i l hl
      split at hk
      · rename_i hap
        split at hk
        · rename_i y hy
          obtain ⟨us, rfl, hus⟩ := resVal_of hl hs (resT_len hy)
          simp only [apartB, Bool.and_eq_true, List.all_eq_true, Bool.not_eq_true'] at hap
          refine ⟨us, y, rfl, hk, hR'.h.kept, ?_, owns_sep hR' hy hus hap.1, fun b hb => ?_⟩
          · refine resT_rel hR' (srcs := ownsR c.res l) (fun b hb => ?_) hy hus (fun m hm => by simpa using hap.2 m hm)
            rcases hb with hb | hb
            · exact .inl hb
            · exact .inr (owns_blk hR' hy hus hb)
          · obtain ⟨m, _, h1, h2⟩ := owns_blk hR' hy hus hb
            exact (hR'.h.own m b h1 h2).1
        · exact hk.elim
      · exact hk.elim
    · exact hk.elim

/-! ### At a call -/
def killAll (hp : List (Option Ob)) : List Nat → List (Option Ob)
  | [] => hp
  | n :: l => killAll (hp.set n none) l

def frzArgs (st : St) (n : Nat) (l : List SV) : List SV :=
  match st.row n with
  | some ⟨k, xs⟩ => SV.frzs n k xs l
  | none => l

def frzAll : List Nat → St → List SV → St × List SV
  | [], st, l => (st, l)
  | n :: r, st, l => frzAll r (st.frz n) (frzArgs st n l)

def conSem (c : Con) : CallSem := fun args st kv kp =>
  let p := if c.res.all AK.flat then (st, args) else frzAll (takenR c.args args) st args
  if apartB c.args p.2 && (c.res.all AK.flat || (takenR c.args p.2).isEmpty) then
    match resT p.1 c.args p.2 with
    | some x => c.pre x ∧ (∀ y, ATup.wf c.res y → c.post x y → kv (resVal (canA c.res y p.1.hp.length)) { p.1 with hp := killAll p.1.hp (ownsR c.args p.2) ++ canH c.res y }) ∧
        (if c.pan then ∀ y, c.pk.wf y → c.ppost x y → kp (.ifc c.pt (.dat c.pk y)) { p.1 with hp := killAll p.1.hp (ownsR c.args p.2) } else True)
    | none => False
  else False

theorem killAll_len : ∀ (l : List Nat) (hp : List (Option Ob)), (killAll hp l).length = hp.length
  | [], _ => rfl
  | n :: l, hp => by simp [killAll, killAll_len l]

theorem killAll_get : ∀ (l : List Nat) (hp : List (Option Ob)) (n : Nat) (o : Ob), (killAll hp l)[n]? = some (some o) → hp[n]? = some (some o) ∧ n ∉ l
  | [], _, _, _, h => ⟨h, by simp⟩
  | m :: l, hp, n, o, h => by
    obtain ⟨h1, h2⟩ := killAll_get l _ n o h
    rw [List.getElem?_set] at h1
    split at h1
    · split at h1 <;> cases h1
    · rename_i hne
      exact ⟨h1, by simp [h2, Ne.symm hne]⟩

section
variable {B : Base} {ρ : Nat → Value} {st : St} {a : Act} {fs : List Act} {w : World}

theorem StRel.args_frz (h : StRel B ρ st a fs w) {l : List SV} {vs : List Value} (hr : SV.rels (cx B ρ st.hp w) l vs) (n : Nat) : StRel B ρ (st.frz n) a fs w ∧ SV.rels (cx B ρ (st.frz n).hp w) (frzArgs st n l) vs := by
  refine ⟨h.frz n, ?_⟩
  cases e : st.row n with
  | some p =>
    obtain ⟨k, xs⟩ := p
    have e1 : (st.frz n).hp = (st.hp.set n none).map (Option.map (Ob.frz n k xs)) := by unfold St.frz; rw [e]
    have e2 : frzArgs st n l = SV.frzs n k xs l := by unfold frzArgs; rw [e]
    rw [e1, e2]
    exact SV.rels.frz (h.thaw e) hr
  | none =>
    have e1 : st.frz n = st := by unfold St.frz; rw [e]
    have e2 : frzArgs st n l = l := by unfold frzArgs; rw [e]
    rw [e1, e2]
    exact hr

theorem frzAll_rel : ∀ (ns : List Nat) {st : St} {l : List SV} {vs : List Value}, StRel B ρ st a fs w → SV.rels (cx B ρ st.hp w) l vs → StRel B ρ (frzAll ns st l).1 a fs w ∧ SV.rels (cx B ρ (frzAll ns st l).1.hp w) (frzAll ns st l).2 vs
  | [], _, _, _, h, hr => ⟨h, hr⟩
  | n :: ns, st, l, vs, h, hr => by
    obtain ⟨h1, h2⟩ := h.args_frz hr n
    exact frzAll_rel ns h1 h2

theorem callOk_con {P : Program} {gl : Gl} {f : Nat} {c : Con} (hc : c.holds P gl f) (he : ∀ args w, (callFunc f args).run P w = .ok (.enter f args) w) : CallOk P gl f (conSem c) := by
  intro args0 st0 kv kp B ρ a fs w vs hB hk h0 hr0
  refine .inl ⟨he _ _, ?_⟩
  unfold conSem at hk
  have hp : ∃ st args, (if c.res.all AK.flat then (st0, args0) else frzAll (takenR c.args args0) st0 args0) = (st, args) ∧ StRel B ρ st a fs w ∧ SV.rels (cx B ρ st.hp w) args vs := by
    split
    · exact ⟨_, _, rfl, h0, hr0⟩
    · exact ⟨_, _, rfl, frzAll_rel _ h0 hr0⟩
  obtain ⟨st, args, e, h, hr⟩ := hp
  simp only [e] at hk
  split at hk
  · rename_i hap
    split at hk
    · rename_i x hx
      obtain ⟨hpre, hk, hkp⟩ := hk
      simp only [Bool.and_eq_true, Bool.or_eq_true, apartB, List.all_eq_true, Bool.not_eq_true', List.isEmpty_iff] at hap
      obtain ⟨⟨hnd, hdisj⟩, hflat⟩ := hap
      have hflat' : c.res.all AK.flat = true ∨ takenR c.args args = [] := hflat.imp (fun h => by simpa using h) id
      -- what the callee does not read
      let Out : Nat → Prop := fun b => ∃ m, (m ∈ takenR c.args args ∨ m ∈ ownsR c.args args) ∧ live st.hp m ∧ blk (ρ m) = some b
      let Fb : Nat → Prop := fun b => Forb B ρ st.hp b ∧ ¬ Out b
      have ob : ∀ b, ownBlk c.args vs b → ∃ m, m ∈ ownsR c.args args ∧ live st.hp m ∧ blk (ρ m) = some b := fun b hb => owns_blk h hx hr hb
      have hA : AReps w (fun b => Fb b ∨ ownBlk c.args vs b) c.args x vs := by
        refine resT_rel h (srcs := (List.range st.hp.length).filter fun m => !(takenR c.args args).contains m) (fun b hb => ?_) hx hr (fun m hm => by simp [hm])
        rcases hb with ⟨hb, hno⟩ | hb
        · rcases hb with hb | ⟨m, hl, hm⟩
          · exact .inl hb
          · refine .inr ⟨m, ?_, hl, hm⟩
            simp only [List.mem_filter, List.mem_range, Bool.not_eq_true', List.contains_eq_mem, decide_eq_false_iff_not]
            exact ⟨live_lt hl, fun hc => hno ⟨m, .inl hc, hl, hm⟩⟩
        · obtain ⟨m, hm, hl, hmb⟩ := ob b hb
          refine .inr ⟨m, ?_, hl, hmb⟩
          simp only [List.mem_filter, List.mem_range, Bool.not_eq_true', List.contains_eq_mem, decide_eq_false_iff_not]
          exact ⟨live_lt hl, fun hc => by have := hdisj m hc; simp at this; exact this hm⟩
      have hgl : GlOk gl w (fun b => Fb b ∨ ownBlk c.args vs b) := by
        have hg := h.gls
        rw [h.g, hB] at hg
        refine hg.step (Nat.le_refl _) (fun _ _ _ => rfl) (fun b _ hF => ?_)
        rcases hF with hF | hF
        · exact hF.1
        · obtain ⟨m, _, hl, hmb⟩ := ob b hF
          exact .inr ⟨m, hl, hmb⟩
      refine (hc w Fb x vs (fun b hb => ⟨h.h.forb_lt hb.1, fun hc => ?_⟩) hgl hA (owns_sep h hx hr hnd) hpre).mono fun en w' hw => ?_
      · obtain ⟨m, hm, hl, hmb⟩ := ob b hc
        exact hb.2 ⟨m, .inr hm, hl, hmb⟩
      have after : ∀ (res : List AK) (us : List Value) (y : ATup res), Kept (ownBlk c.args vs) w w' → AReps w' (fun b => Fb b ∨ ownBlk res us b) res y us → ownSep res us → (∀ b, ownBlk res us b → w.heap.size ≤ b ∨ ownBlk c.args vs b) →
          (res.all AK.flat = true ∨ takenR c.args args = []) → ∃ ρ2, StRel B ρ2 { st with hp := killAll st.hp (ownsR c.args args) ++ canH res y } a fs w' ∧ SV.rels (cx B ρ2 (killAll st.hp (ownsR c.args args) ++ canH res y) w') (canA res y st.hp.length) us := by
        intro res us y hkept hR hsep hnew hfl
        let ρ2 : Nat → Value := fun n => if n < st.hp.length then ρ n else (handles res us).getD (n - st.hp.length) undef
        let hp2 := killAll st.hp (ownsR c.args args) ++ canH res y
        have hlen := canH_len hR
        have live2 : ∀ n o, hp2[n]? = some (some o) → (n < st.hp.length ∧ st.hp[n]? = some (some o) ∧ n ∉ ownsR c.args args ∧ ρ2 n = ρ n) ∨
            (st.hp.length ≤ n ∧ (canH res y)[n - st.hp.length]? = some (some o) ∧ ∃ v, (handles res us)[n - st.hp.length]? = some v ∧ ρ2 n = v) := by
          intro n o ho
          by_cases hn : n < st.hp.length
          · left
            rw [show hp2[n]? = (killAll st.hp (ownsR c.args args))[n]? from List.getElem?_append_left (by rw [killAll_len]; exact hn)] at ho
            obtain ⟨h1, h2⟩ := killAll_get _ _ _ _ ho
            exact ⟨hn, h1, h2, by simp [ρ2, hn]⟩
          · right
            rw [show hp2[n]? = (canH res y)[n - st.hp.length]? by
              show (killAll st.hp (ownsR c.args args) ++ canH res y)[n]? = _
              rw [List.getElem?_append_right (by rw [killAll_len]; omega), killAll_len]] at ho
            have hlt : n - st.hp.length < (handles res us).length := by rw [hlen]; exact (List.getElem?_eq_some_iff.1 ho).1
            exact ⟨by omega, ho, _, List.getElem?_eq_getElem hlt, by simp [ρ2, hn, List.getD_eq_getElem?_getD, List.getElem?_eq_getElem hlt]⟩
        have newBlk : ∀ (i : Nat) v b, (handles res us)[i]? = some v → blk v = some b → w.heap.size ≤ b ∨ ∃ m, m ∈ ownsR c.args args ∧ live st.hp m ∧ blk (ρ m) = some b := fun i v b hi hb => by
          rcases hnew b ⟨v, List.mem_iff_getElem?.2 ⟨i, hi⟩, hb⟩ with h1 | h1
          · exact .inl h1
          · exact .inr (ob b h1)
        have le : (cx B ρ st.hp w).le (cx B ρ2 hp2 w') := by
          refine ⟨hkept.size, fun b hb hF => hkept.block b hb (fun hc => ?_), fun b hb hF => ?_, by simp [hp2, killAll_len], fun n hn => by simp [ρ2, hn], rfl⟩
          · obtain ⟨m, _, hl, hmb⟩ := ob b hc
            exact hF (.inr ⟨m, hl, hmb⟩)
          · rcases hF with hF | ⟨n, ⟨o, ho⟩, hnb⟩
            · exact .inl hF
            · rcases live2 n o ho with ⟨_, h1, _, h2⟩ | ⟨_, _, v, h1, h2⟩
              · exact .inr ⟨n, ⟨o, h1⟩, by rw [← h2]; exact hnb⟩
              · rw [h2] at hnb
                rcases newBlk _ v b h1 hnb with h3 | ⟨m, _, hl, hmb⟩
                · simp only at hb; omega
                · exact .inr ⟨m, hl, hmb⟩
        -- what the results read
        have up : res.all AK.flat = true ∨ ∀ b, b < w'.heap.size → Forb B ρ2 hp2 b → Fb b ∨ ownBlk res us b := by
          refine hfl.imp id fun htk b _ hF => ?_
          have outs : Out b → ∃ m, m ∈ ownsR c.args args ∧ live st.hp m ∧ blk (ρ m) = some b := by
            rintro ⟨m, hm, h1, h2⟩
            rw [htk] at hm
            exact ⟨m, by simpa using hm, h1, h2⟩
          rcases hF with hF | ⟨n, ⟨o, ho⟩, hnb⟩
          · refine .inl ⟨.inl hF, fun hc => ?_⟩
            obtain ⟨m, _, hl, hmb⟩ := outs hc
            exact (h.h.own m b hl hmb).2 hF
          · rcases live2 n o ho with ⟨_, h1, h3, h2⟩ | ⟨_, _, v, h1, h2⟩
            · rw [h2] at hnb
              refine .inl ⟨.inr ⟨n, ⟨o, h1⟩, hnb⟩, fun hc => ?_⟩
              obtain ⟨m, hm, hl, hmb⟩ := outs hc
              have := h.h.sep m n b hl ⟨o, h1⟩ hmb hnb
              subst this
              exact h3 hm
            · rw [h2] at hnb
              exact .inr ⟨v, List.mem_iff_getElem?.2 ⟨_, h1⟩, hnb⟩
        have hR2 : StRel B ρ2 { st with hp := hp2 } a fs w' := by
          refine ⟨⟨h.h.kept.trans (S' := ownBlk c.args vs) hkept (fun b hb hc => ?_), fun n o ho => ?_, ?_, fun n b hn hnb => ?_, h.h.fb⟩, h.s.le le, h.kn, h.k.le le, h.d.le le, h.g⟩
          · obtain ⟨m, _, hl, hmb⟩ := ob b hc
            exact (h.h.own m b hl hmb).1.resolve_left (by omega)
          · rcases live2 n o ho with ⟨hn, h1, h3, h2⟩ | ⟨hn, h1, v, h3, h2⟩
            · rw [h2]
              refine (h.h.obj n o h1).le le (fun b hb => hkept.block b (h.h.live_block ⟨o, h1⟩ hb) (fun hc => ?_))
              obtain ⟨m, hm, hl, hmb⟩ := ob b hc
              have := h.h.sep m n b hl ⟨o, h1⟩ hmb hb
              subst this
              exact h3 hm
            · obtain ⟨u, hu, hr⟩ := canH_rel hR up _ o h1
              rw [h3] at hu
              cases hu
              rw [h2]
              exact hr _ rfl rfl
          · have key : ∀ n m b o o', hp2[n]? = some (some o) → hp2[m]? = some (some o') → blk (ρ2 n) = some b → blk (ρ2 m) = some b → n < st.hp.length → st.hp.length ≤ m → False := by
              intro n m b o o' hn hm hnb hmb h1 h2
              rcases live2 n o hn with ⟨_, h3, h4, h5⟩ | ⟨h3, _⟩
              · rcases live2 m o' hm with ⟨h6, _⟩ | ⟨_, _, v, h7, h8⟩
                · omega
                · rw [h5] at hnb
                  rw [h8] at hmb
                  rcases newBlk _ v b h7 hmb with h9 | ⟨q, hq, hl, hqb⟩
                  · have := h.h.live_block ⟨o, h3⟩ hnb; omega
                  · have := h.h.sep q n b hl ⟨o, h3⟩ hqb hnb
                    subst this
                    exact h4 hq
              · omega
            rintro n m b ⟨o, hn⟩ ⟨o', hm⟩ hnb hmb
            by_cases h1 : n < st.hp.length
            · by_cases h2 : m < st.hp.length
              · rcases live2 n o hn with ⟨_, h3, _, h4⟩ | ⟨h3, _⟩
                · rcases live2 m o' hm with ⟨_, h5, _, h6⟩ | ⟨h5, _⟩
                  · rw [h4] at hnb
                    rw [h6] at hmb
                    exact h.h.sep n m b ⟨o, h3⟩ ⟨o', h5⟩ hnb hmb
                  · omega
                · omega
              · exact (key n m b o o' hn hm hnb hmb h1 (by omega)).elim
            · by_cases h2 : m < st.hp.length
              · exact (key m n b o' o hm hn hmb hnb h2 (by omega)).elim
              · rcases live2 n o hn with ⟨h3, _⟩ | ⟨_, _, v, h3, h4⟩
                · omega
                · rcases live2 m o' hm with ⟨h5, _⟩ | ⟨_, _, u, h5, h6⟩
                  · omega
                  · rw [h4] at hnb
                    rw [h6] at hmb
                    have := hsep _ _ v u b h3 h5 hnb hmb
                    omega
          · obtain ⟨o, ho⟩ := hn
            rcases live2 n o ho with ⟨_, h3, _, h4⟩ | ⟨_, _, v, h3, h4⟩
            · rw [h4] at hnb
              exact h.h.own n b ⟨o, h3⟩ hnb
            · rw [h4] at hnb
              rcases newBlk _ v b h3 hnb with h5 | ⟨m, _, hl, hmb⟩
              · have hks := h.h.kept.size
                exact ⟨.inl (Nat.le_trans hks h5), fun hc => by have := (h.h.fb b hc).1; omega⟩
              · exact h.h.own m b hl hmb
        refine ⟨ρ2, hR2, can_rel (C := cx B ρ2 hp2 w') hR up ?_ ?_⟩
        · show st.hp.length + (canH res y).length ≤ (killAll st.hp (ownsR c.args args) ++ canH res y).length
          simp [killAll_len]
        · intro i v hv
          show ρ2 (st.hp.length + i) = v
          show (if st.hp.length + i < st.hp.length then ρ (st.hp.length + i) else (handles res us).getD (st.hp.length + i - st.hp.length) undef) = v
          rw [if_neg (by omega), Nat.add_sub_cancel_left, List.getD_eq_getElem?_getD, hv]
          rfl
      rcases hw with ⟨us, y, rfl, hpost, hkept, hR, hsep, hnew⟩ | ⟨hp1, hp3, u, y, rfl, hpost, hkept, hv⟩
      · obtain ⟨ρ2, h1, h2⟩ := after c.res us y hkept hR hsep hnew hflat'
        exact ⟨_, _, ρ2, hk y hR.wf hpost, h1, resVal_rel h2⟩
      · obtain ⟨ρ2, h1, _⟩ := after [] [] () hkept rfl (fun i j v u b hi => by simp [handles] at hi) (fun b hb => by obtain ⟨v, hv, _⟩ := hb; simp [handles] at hv) (.inl rfl)
        rw [if_pos hp1] at hkp
        simp only [canH, List.append_nil] at h1
        refine ⟨_, _, _, ρ2, rfl, hkp y (as_wf hv) hpost, h1, ?_⟩
        obtain ⟨cs, h3, h4⟩ := hv
        exact ⟨u, rfl, cs, flat_rep hp3 h3, h4⟩
    · exact hk.elim
  · exact hk.elim
end

/-! ### An environment, from what is known of the functions -/
def assoc {α : Type} : List (Nat × α) → Nat → Option α
  | [], _ => none
  | (i, c) :: l, n => if n = i then some c else assoc l n

def AllOk {α : Type} (Ok : Nat → α → Prop) : List (Nat × α) → Prop
  | [] => True
  | (i, c) :: l => Ok i c ∧ AllOk Ok l

theorem assoc_ok {α : Type} {Ok : Nat → α → Prop} : ∀ {l : List (Nat × α)}, AllOk Ok l → ∀ f c, assoc l f = some c → Ok f c
  | [], _, f, c, h => by cases h
  | (i, c') :: l, ha, f, c, h => by
    simp only [assoc] at h
    split at h
    · rename_i e
      cases h
      rw [e]
      exact ha.1
    · exact assoc_ok ha.2 f c h

def mkEnv (T : Ty) (l : List (Nat × CallSem)) (q : List (Nat × (CallSem → CallSem))) (d : List (Nat × DefSem)) (keep : List Nat) : Env := { toTy := T, fns := assoc l, keep := keep, seqs := assoc q, dfs := assoc d }

theorem mkEnv_ok {T : Ty} {gl : Gl} {l : List (Nat × CallSem)} {q : List (Nat × (CallSem → CallSem))} {d : List (Nat × DefSem)} (keep : List Nat) (hT : T.Ok) (hm : T.P.follows .mixedOrders = true) (h : AllOk (CallOk T.P gl) l) (hq : AllOk (SeqOk T.P gl) q) (hd : AllOk (DefOk T.P gl) d) : (mkEnv T l q d keep).Ok gl :=
  ⟨hT, assoc_ok h, assoc_ok hq, assoc_ok hd, hm⟩

/-- As mkEnv; some slots' bytes of a text are rows of the walk's own. -/
def mkEnvO (T : Ty) (l : List (Nat × CallSem)) (q : List (Nat × (CallSem → CallSem))) (d : List (Nat × DefSem)) (keep own : List Nat) : Env := { mkEnv T l q d keep with own := own }

theorem mkEnvO_ok {T : Ty} {gl : Gl} {l : List (Nat × CallSem)} {q : List (Nat × (CallSem → CallSem))} {d : List (Nat × DefSem)} (keep own : List Nat) (hT : T.Ok) (hm : T.P.follows .mixedOrders = true) (h : AllOk (CallOk T.P gl) l) (hq : AllOk (SeqOk T.P gl) q) (hd : AllOk (DefOk T.P gl) d) : (mkEnvO T l q d keep own).Ok gl :=
  ⟨hT, assoc_ok h, assoc_ok hq, assoc_ok hd, hm⟩

def bodyOf (f : Func) : Code := match f.body with | some c => c | none => .skip

structure Con.ok (P : Program) (gl : Gl) (f : Nat) (c : Con) : Prop where
  holds : c.holds P gl f
  call : CallOk P gl f (conSem c)

/-- Is it a function with a body, that is entered like any other? -/
def plainFn (fn : Func) : Bool := fn.body.isSome && !(fn.name == "runtime.NumGoroutine")
def Env.plain (E : Env) : Bool := E.yld.isNone && !E.rnd

theorem plain_body {fn : Func} (hp : plainFn fn = true) : fn.body = some (bodyOf fn) ∧ (fn.name == "runtime.NumGoroutine") = false := by
  simp only [plainFn, Bool.and_eq_true, Bool.not_eq_true'] at hp
  obtain ⟨body, hb⟩ := Option.isSome_iff_exists.1 hp.1
  refine ⟨?_, hp.2⟩
  unfold bodyOf
  rw [hb]

section
variable {T : Ty} {gl : Gl} {l : List (Nat × CallSem)} {q : List (Nat × (CallSem → CallSem))} {d : List (Nat × DefSem)} {keep : List Nat}

theorem con_ok {H : Hints} (hE : (mkEnv T l q d keep).Ok gl) {f : Nat} {fn : Func} (hf : T.P.funcs[f]? = some fn) (hp : plainFn fn = true) {c : Con} (hc : c.vc gl (mkEnv T l q d keep) H fn.ntmps fn.results.toList (bodyOf fn)) : c.ok T.P gl f := by
  obtain ⟨hb, hn⟩ := plain_body hp
  have h := con_body hE hf hn hb rfl rfl hc
  exact ⟨h, callOk_con h (fn_enter hf hn hb)⟩

theorem conO_ok {own : List Nat} {H : Hints} (hE : (mkEnvO T l q d keep own).Ok gl) {f : Nat} {fn : Func} (hf : T.P.funcs[f]? = some fn) (hp : plainFn fn = true) {c : Con} (hc : c.vc gl (mkEnvO T l q d keep own) H fn.ntmps fn.results.toList (bodyOf fn)) : c.ok T.P gl f := by
  obtain ⟨hb, hn⟩ := plain_body hp
  have h := con_body hE hf hn hb rfl rfl hc
  exact ⟨h, callOk_con h (fn_enter hf hn hb)⟩

/-- A function that is walked where it is called, its ways led together. -/
theorem inlJ_ok (H : Hints) (abs : Bool) (res : List AK) (hE : (mkEnv T l q d keep).Ok gl) {f : Nat} {fn : Func} (hf : T.P.funcs[f]? = some fn) (hp : plainFn fn = true) : CallOk T.P gl f (vcFnJ (mkEnv T l q d keep) H fn.ntmps fn.results.toList (bodyOf fn) abs res) := by
  obtain ⟨hb, hn⟩ := plain_body hp
  exact callOk_fnJ hE abs res hf hn hb rfl rfl

/-- A function that is walked where it is called. -/
theorem inl_ok (H : Hints) (hE : (mkEnv T l q d keep).Ok gl) {f : Nat} {fn : Func} (hf : T.P.funcs[f]? = some fn) (hp : plainFn fn = true) : CallOk T.P gl f (vcFn (mkEnv T l q d keep) H fn.ntmps fn.results.toList (bodyOf fn)) := by
  obtain ⟨hb, hn⟩ := plain_body hp
  exact callOk_fn hE hf hn hb rfl rfl

/-- A function whose result, a cut, is taken as a row of its own. -/
def cutSem (c : CallSem) : CallSem := fun args st kv kp => c args st (fun s st' => st'.trunc s kv) kp
theorem cut_ok {P : Program} {gl : Gl} {f : Nat} {c : CallSem} (h : CallOk P gl f c) : CallOk P gl f (cutSem c) := by
  intro args st kv kp B ρ a fs w vs hg hc hr hv
  have mono : ∀ e w', CallPost B a fs (fun s st' => st'.trunc s kv) kp e w' → CallPost B a fs kv kp e w' := by
    intro e w' he
    cases e with
    | returned v =>
      obtain ⟨s, st', ρ', h1, h2, h3⟩ := he
      obtain ⟨s2, st2, ρ2, h4, h5, h6⟩ := trunc_sound h2 h3 h1
      exact ⟨s2, st2, ρ2, h4, h5, h6⟩
    | panicked ch => exact he
    | outgrown => exact he
  rcases h args st _ kp B ρ a fs w vs hg hc hr hv with ⟨h1, h2⟩ | ⟨v, h1, h2⟩
  · exact .inl ⟨h1, Calls.mono h2 mono⟩
  · exact .inr ⟨v, h1, mono _ _ h2⟩

/-- A function that is ranged over. -/
theorem seq_ok (H : Hints) (hE : (mkEnv T l q d keep).Ok gl) {f : Nat} {fn : Func} (hf : T.P.funcs[f]? = some fn) (hp : plainFn fn = true) : SeqOk T.P gl f (vcSeq (mkEnv T l q d keep) H fn.ntmps fn.results.toList (bodyOf fn)) := by
  obtain ⟨hb, hn⟩ := plain_body hp
  exact seqOk_fn hE hf hn hb rfl

/-- A deferred function. -/
theorem def_ok (H : Hints) (hE : (mkEnv T l q d keep).Ok gl) {f : Nat} {fn : Func} (hf : T.P.funcs[f]? = some fn) (hp : plainFn fn = true) : DefOk T.P gl f (vcDef (mkEnv T l q d keep) H fn.ntmps fn.results.toList (bodyOf fn)) := by
  obtain ⟨hb, hn⟩ := plain_body hp
  exact defOk_fn hE hf hn hb rfl rfl
end

theorem owns_dat : ∀ (ks : List Kd) (r : List SV), ownsR (ks.map AK.dat) r = []
  | [], _ => rfl
  | _ :: _, [] => rfl
  | _ :: ks, _ :: r => owns_dat ks r

/-- A function without a body: what is known of its run. -/
theorem ext_ok {P : Program} {gl : Gl} {f : Nat} {ks : List Kd} {k : Kd} {pre : ATup (ks.map AK.dat) → Prop} {post : ATup (ks.map AK.dat) → ATup [AK.dat k] → Prop} (hk0 : k.flat = true)
    (hf : ∀ (w : World) (F : Nat → Prop) (x : ATup (ks.map AK.dat)) (vs : List Value), AReps w F (ks.map AK.dat) x vs → pre x → ∃ u y, (callFunc f vs.toArray).run P w = .ok (.value u) w ∧ post x (y, ()) ∧ VRep w (fun _ => False) k y u) :
    CallOk P gl f (conSem { args := ks.map AK.dat, res := [.dat k], pre := pre, post := post }) := by
  intro args st kv kp B ρ a fs w vs hB hk h hr
  unfold conSem at hk
  have hfl : ([AK.dat k] : List AK).all AK.flat = true := by simp [AK.flat, hk0]
  simp only [hfl, if_true, Bool.true_or, Bool.and_true] at hk
  split at hk
  · split at hk
    · rename_i x hx
      obtain ⟨hpre, hk, _⟩ := hk
      have hA : AReps w (fun b => B.Fb b) (ks.map AK.dat) x vs := resT_rel h (srcs := []) (fun b hb => .inl hb) hx hr (fun m _ => by simp)
      obtain ⟨u, y, h1, h2, h3⟩ := hf w _ x vs hA hpre
      refine .inr ⟨u, h1, _, _, ρ, hk (y, ()) ⟨as_wf h3, trivial⟩ h2, ?_, ?_⟩
      · simp only [canH, List.append_nil, owns_dat, killAll]
        exact h
      · simp only [canA, resVal]
        obtain ⟨cs, h4, h5⟩ := h3
        exact ⟨cs, flat_rep hk0 h4, h5⟩
    · exact hk.elim
  · exact hk.elim
end Go.Vc
