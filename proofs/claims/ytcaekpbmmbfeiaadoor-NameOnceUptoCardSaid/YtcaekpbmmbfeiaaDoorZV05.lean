/- Texts of a verified walk, led together: Con2, Law, Gl, Lib. -/
import Derived.Test.YtcaekpbmmbfeiaaDoorZV04
import Derived.WalkKit
import Derived.ProofKit
import Derived.OpenShut
import Derived.JoinedCond
import Derived.Carry
import Derived.Deep.Slices
import Derived.Lib.LaidU8
import Derived.Lib.LaidTab
import Derived.Sort.Grow
set_option linter.unusedVariables false
set_option linter.unusedSimpArgs false
section
/- Contracts: of a body, and at a call. -/
namespace Go.Vc
open Go.RowKit

theorem resVal_of {C : Cx} {res : List AK} {s : SV} {l : List SV} {v : Value} (h : resSVs res s = some l) (hs : s.rel C v) (hl : l.length = res.length) : ∃ us, v = resOf us ∧ SV.rels C l us := by
  unfold resSVs at h
  split at h
  · cases h
    exact ⟨[v], rfl, v, [], rfl, hs, rfl⟩
  · rename_i hne
    cases h
    obtain ⟨us, rfl, hu⟩ := hs
    refine ⟨us, ?_, hu⟩
    unfold resOf
    have h1 : us.length = l.length := rels_length hu
    have : us.toArray.size ≠ 1 := by
      intro e
      simp at e
      rw [h1, hl] at e
      match res, e with
      | [x], _ => exact hne x rfl
    rw [dif_neg this]
  · cases h

theorem resT_len {st : St} : ∀ {l : List AK} {r : List SV} {y : ATup l}, resT st l r = some y → r.length = l.length
  | [], [], _, _ => rfl
  | [], _ :: _, _, h => by simp [resT] at h
  | .dat _ :: _, [], _, h => by simp [resT] at h
  | .own _ _ :: _, [], _, h => by simp [resT] at h
  | .dat k :: l, s :: r, y, h => by
    simp only [resT] at h
    split at h
    · rename_i e; simp [resT_len e]
    · cases h
  | .own e k :: l, s :: r, y, h => by
    cases s <;> simp only [resT] at h <;> try (cases h; done)
    case own n =>
      split at h
      · rename_i e; simp [resT_len e]
      · cases h
    case cst c =>
      split at h
      · split at h
        · rename_i e; simp [resT_len e]
        · cases h
      · cases h

theorem AReps.len {w : World} {F : Nat → Prop} : ∀ {l : List AK} {x : ATup l} {vs : List Value}, AReps w F l x vs → vs.length = l.length
  | [], _, vs, h => by
    obtain rfl : vs = [] := h
    rfl
  | a :: l, x, vs, h => by
    obtain ⟨v, r, rfl, _, h2⟩ := h
    simp [AReps.len h2]

/-- A contract, from the walk of the body. -/
theorem con_body {E : Env} {gl : Gl} {H : Hints} (hE : E.Ok gl) {f : Nat} {fn : Func} {body : Code} (hf : E.P.funcs[f]? = some fn) (hn : (fn.name == "runtime.NumGoroutine") = false) (hb : fn.body = some body) (hq : E.yld.isNone = true) (hrnd : E.rnd = false)
    {c : Con} (hc : c.vc gl E H fn.ntmps fn.results.toList body) : c.holds E.P gl f := by
  intro w Fb x vs hFb hgl hA hsep hpre
  have hvc := hc x hA.wf hpre
  let B : Base := ⟨fun _ => w, ownBlk c.args vs, Fb, 0, gl, fun _ => hgl⟩
  let ρ : Nat → Value := fun n => (handles c.args vs).getD n undef
  let st : St := { n := 0, sl := [], hp := canH c.args x, gl := gl }
  have hρ : ∀ (i : Nat) (v : Value), (handles c.args vs)[i]? = some v → ρ i = v := fun i v hv => by simp [ρ, List.getD_eq_getElem?_getD, hv]
  have hlen := canH_len hA
  have getL : ∀ n, live st.hp n → ∃ v, (handles c.args vs)[n]? = some v ∧ ρ n = v := fun n hl => by
    have := live_lt hl
    have h2 : n < (handles c.args vs).length := by rw [hlen]; exact this
    exact ⟨_, List.getElem?_eq_getElem h2, hρ n _ (List.getElem?_eq_getElem h2)⟩
  have hForb : ∀ b, b < w.heap.size → Forb B ρ st.hp b → Fb b ∨ ownBlk c.args vs b := fun b _ hb => by
    rcases hb with hb | ⟨n, hl, hb⟩
    · exact .inl hb
    · obtain ⟨v, hv, e⟩ := getL n hl
      exact .inr ⟨v, List.mem_iff_getElem?.2 ⟨n, hv⟩, by rw [← e]; exact hb⟩
  have hR : StRel B ρ st { tmps := #[], defers := [] } [] w := by
    refine ⟨⟨Kept.refl _ _, fun n o ho => ?_, fun n m b hn hm h1 h2 => ?_, fun n b hn h1 => ?_, fun b hb => ⟨(hFb b hb).1, (hFb b hb).2⟩⟩, ⟨rfl, fun i s hs => by cases hs⟩, (fun t b hb => by cases hb), rfl, rfl, rfl⟩
    · obtain ⟨v, hv, hr⟩ := canH_rel hA (.inr hForb) n o ho
      rw [hρ n v hv]
      exact hr _ rfl rfl
    · obtain ⟨v, hv, e1⟩ := getL n hn
      obtain ⟨u, hu, e2⟩ := getL m hm
      rw [e1] at h1
      rw [e2] at h2
      exact hsep n m v u b hv hu h1 h2
    · obtain ⟨v, hv, e1⟩ := getL n hn
      rw [e1] at h1
      have : ownBlk c.args vs b := ⟨v, List.mem_iff_getElem?.2 ⟨n, hv⟩, h1⟩
      exact ⟨.inr this, fun hc => (hFb b hc).2 this⟩
  have hargs : SV.rels (cx B ρ st.hp w) (canA c.args x 0) vs := can_rel (C := cx B ρ st.hp w) hA (.inr hForb) (by simp [st]) (fun i v hv => by rw [Nat.zero_add]; exact hρ i v hv)
  refine (fn_sound (H := H) hE hf hb hrnd rfl (fun hd e => by rw [e] at hq; cases hq) hvc hR hargs).mono fun en w' hw => ?_
  cases en with
  | panicked ch =>
    right
    obtain ⟨v, s, st', ρ', rfl, hk, hR', hs⟩ := hw
    unfold Con.panK at hk
    split at hk
    · rename_i t s'
      split at hk
      · rename_i hcond
        simp only [Bool.and_eq_true, beq_iff_eq] at hcond
        obtain ⟨⟨⟨⟨hp1, rfl⟩, hp3⟩, hp4⟩, hp5⟩ := hcond
        split at hk
        · rename_i l hl
          split at hk
          · rename_i y hy
            obtain ⟨u, rfl, hu⟩ := hs
            refine ⟨hp1, hp3, u, y, rfl, hk, hR'.h.kept, ?_⟩
            have h5 := unleaf_all hy (cells_rel hl hu)
            refine ⟨u.cells.toList, flat_rep hp3 h5, ?_⟩
            rw [if_pos hp5]
            obtain ⟨cs, rfl⟩ := isAgg_rel hp4 hu
            simp [Value.cells]
          · exact hk.elim
        · exact hk.elim
      · exact hk.elim
    · exact hk.elim
  | outgrown => exact hw.elim
  | returned v =>
    left
    obtain ⟨s, st', ρ', hk, hR', hs⟩ := hw
    unfold St.resK at hk
    split at hk
    · rename_i l hl
      split at hk
      · rename_i hap
        split at hk
        · rename_i y hy
          obtain ⟨us, rfl, hus⟩ := resVal_of hl hs (resT_len hy)
          simp only [apartB, Bool.and_eq_true, List.all_eq_true, Bool.not_eq_true'] at hap
          refine ⟨us, y, rfl, hk, hR'.h.kept, ?_, owns_sep hR' hy hus hap.1, fun b hb => ?_⟩
          · refine resT_rel hR' (srcs := ownsR c.res l) (fun b hb => ?_) hy hus (fun m hm => by simpa using hap.2 m hm)
            rcases hb with hb | hb
            · exact .inl hb
            · exact .inr (owns_blk hR' hy hus hb)
          · obtain ⟨m, _, h1, h2⟩ := owns_blk hR' hy hus hb
            exact (hR'.h.own m b h1 h2).1
        · exact hk.elim
      · exact hk.elim
    · exact hk.elim

/-! ### At a call -/
def killAll (hp : List (Option Ob)) : List Nat → List (Option Ob)
  | [] => hp
  | n :: l => killAll (hp.set n none) l

def frzArgs (st : St) (n : Nat) (l : List SV) : List SV :=
  match st.row n with
  | some ⟨k, xs⟩ => SV.frzs n k xs l
  | none => l

def frzAll : List Nat → St → List SV → St × List SV
  | [], st, l => (st, l)
  | n :: r, st, l => frzAll r (st.frz n) (frzArgs st n l)

def conSem (c : Con) : CallSem := fun args st kv kp =>
  let p := if c.res.all AK.flat then (st, args) else frzAll (takenR c.args args) st args
  if apartB c.args p.2 && (c.res.all AK.flat || (takenR c.args p.2).isEmpty) then
    match resT p.1 c.args p.2 with
    | some x => c.pre x ∧ (∀ y, ATup.wf c.res y → c.post x y → kv (resVal (canA c.res y p.1.hp.length)) { p.1 with hp := killAll p.1.hp (ownsR c.args p.2) ++ canH c.res y }) ∧
        (if c.pan then ∀ y, c.pk.wf y → c.ppost x y → kp (.ifc c.pt (.dat c.pk y)) { p.1 with hp := killAll p.1.hp (ownsR c.args p.2) } else True)
    | none => False
  else False

theorem killAll_len : ∀ (l : List Nat) (hp : List (Option Ob)), (killAll hp l).length = hp.length
  | [], _ => rfl
  | n :: l, hp => by simp [killAll, killAll_len l]

theorem killAll_get : ∀ (l : List Nat) (hp : List (Option Ob)) (n : Nat) (o : Ob), (killAll hp l)[n]? = some (some o) → hp[n]? = some (some o) ∧ n ∉ l
  | [], _, _, _, h => ⟨h, by simp⟩
  | m :: l, hp, n, o, h => by
    obtain ⟨h1, h2⟩ := killAll_get l _ n o h
    rw [List.getElem?_set] at h1
    split at h1
    · split at h1 <;> cases h1
    · rename_i hne
      exact ⟨h1, by simp [h2, Ne.symm hne]⟩

section
variable {B : Base} {ρ : Nat → Value} {st : St} {a : Act} {fs : List Act} {w : World}

theorem StRel.args_frz (h : StRel B ρ st a fs w) {l : List SV} {vs : List Value} (hr : SV.rels (cx B ρ st.hp w) l vs) (n : Nat) : StRel B ρ (st.frz n) a fs w ∧ SV.rels (cx B ρ (st.frz n).hp w) (frzArgs st n l) vs := by
  refine ⟨h.frz n, ?_⟩
  cases e : st.row n with
  | some p =>
    obtain ⟨k, xs⟩ := p
    have e1 : (st.frz n).hp = (st.hp.set n none).map (Option.map (Ob.frz n k xs)) := by unfold St.frz; rw [e]
    have e2 : frzArgs st n l = SV.frzs n k xs l := by unfold frzArgs; rw [e]
    rw [e1, e2]
    exact SV.rels.frz (h.thaw e) hr
  | none =>
    have e1 : st.frz n = st := by unfold St.frz; rw [e]
    have e2 : frzArgs st n l = l := by unfold frzArgs; rw [e]
    rw [e1, e2]
    exact hr

theorem frzAll_rel : ∀ (ns : List Nat) {st : St} {l : List SV} {vs : List Value}, StRel B ρ st a fs w → SV.rels (cx B ρ st.hp w) l vs → StRel B ρ (frzAll ns st l).1 a fs w ∧ SV.rels (cx B ρ (frzAll ns st l).1.hp w) (frzAll ns st l).2 vs
  | [], _, _, _, h, hr => ⟨h, hr⟩
  | n :: ns, st, l, vs, h, hr => by
    obtain ⟨h1, h2⟩ := h.args_frz hr n
    exact frzAll_rel ns h1 h2

theorem callOk_con {P : Program} {gl : Gl} {f : Nat} {c : Con} (hc : c.holds P gl f) (he : ∀ args w, (callFunc f args).run P w = .ok (.enter f args) w) : CallOk P gl f (conSem c) := by
  intro args0 st0 kv kp B ρ a fs w vs hB hk h0 hr0
  refine .inl ⟨he _ _, ?_⟩
  unfold conSem at hk
  have hp : ∃ st args, (if c.res.all AK.flat then (st0, args0) else frzAll (takenR c.args args0) st0 args0) = (st, args) ∧ StRel B ρ st a fs w ∧ SV.rels (cx B ρ st.hp w) args vs := by
    split
    · exact ⟨_, _, rfl, h0, hr0⟩
    · exact ⟨_, _, rfl, frzAll_rel _ h0 hr0⟩
  obtain ⟨st, args, e, h, hr⟩ := hp
  simp only [e] at hk
  split at hk
  · rename_i hap
    split at hk
    · rename_i x hx
      obtain ⟨hpre, hk, hkp⟩ := hk
      simp only [Bool.and_eq_true, Bool.or_eq_true, apartB, List.all_eq_true, Bool.not_eq_true', List.isEmpty_iff] at hap
      obtain ⟨⟨hnd, hdisj⟩, hflat⟩ := hap
      have hflat' : c.res.all AK.flat = true ∨ takenR c.args args = [] := hflat.imp (fun h => by simpa using h) id
      -- what the callee does not read
      let Out : Nat → Prop := fun b => ∃ m, (m ∈ takenR c.args args ∨ m ∈ ownsR c.args args) ∧ live st.hp m ∧ blk (ρ m) = some b
      let Fb : Nat → Prop := fun b => Forb B ρ st.hp b ∧ ¬ Out b
      have ob : ∀ b, ownBlk c.args vs b → ∃ m, m ∈ ownsR c.args args ∧ live st.hp m ∧ blk (ρ m) = some b := fun b hb => owns_blk h hx hr hb
      have hA : AReps w (fun b => Fb b ∨ ownBlk c.args vs b) c.args x vs := by
        refine resT_rel h (srcs := (List.range st.hp.length).filter fun m => !(takenR c.args args).contains m) (fun b hb => ?_) hx hr (fun m hm => by simp [hm])
        rcases hb with ⟨hb, hno⟩ | hb
        · rcases hb with hb | ⟨m, hl, hm⟩
          · exact .inl hb
          · refine .inr ⟨m, ?_, hl, hm⟩
            simp only [List.mem_filter, List.mem_range, Bool.not_eq_true', List.contains_eq_mem, decide_eq_false_iff_not]
            exact ⟨live_lt hl, fun hc => hno ⟨m, .inl hc, hl, hm⟩⟩
        · obtain ⟨m, hm, hl, hmb⟩ := ob b hb
          refine .inr ⟨m, ?_, hl, hmb⟩
          simp only [List.mem_filter, List.mem_range, Bool.not_eq_true', List.contains_eq_mem, decide_eq_false_iff_not]
          exact ⟨live_lt hl, fun hc => by have := hdisj m hc; simp at this; exact this hm⟩
      have hgl : GlOk gl w (fun b => Fb b ∨ ownBlk c.args vs b) := by
        have hg := h.gls
        rw [h.g, hB] at hg
        refine hg.step (Nat.le_refl _) (fun _ _ _ => rfl) (fun b _ hF => ?_)
        rcases hF with hF | hF
        · exact hF.1
        · obtain ⟨m, _, hl, hmb⟩ := ob b hF
          exact .inr ⟨m, hl, hmb⟩
      refine (hc w Fb x vs (fun b hb => ⟨h.h.forb_lt hb.1, fun hc => ?_⟩) hgl hA (owns_sep h hx hr hnd) hpre).mono fun en w' hw => ?_
      · obtain ⟨m, hm, hl, hmb⟩ := ob b hc
        exact hb.2 ⟨m, .inr hm, hl, hmb⟩
      have after : ∀ (res : List AK) (us : List Value) (y : ATup res), Kept (ownBlk c.args vs) w w' → AReps w' (fun b => Fb b ∨ ownBlk res us b) res y us → ownSep res us → (∀ b, ownBlk res us b → w.heap.size ≤ b ∨ ownBlk c.args vs b) →
          (res.all AK.flat = true ∨ takenR c.args args = []) → ∃ ρ2, StRel B ρ2 { st with hp := killAll st.hp (ownsR c.args args) ++ canH res y } a fs w' ∧ SV.rels (cx B ρ2 (killAll st.hp (ownsR c.args args) ++ canH res y) w') (canA res y st.hp.length) us := by
        intro res us y hkept hR hsep hnew hfl
        let ρ2 : Nat → Value := fun n => if n < st.hp.length then ρ n else (handles res us).getD (n - st.hp.length) undef
        let hp2 := killAll st.hp (ownsR c.args args) ++ canH res y
        have hlen := canH_len hR
        have live2 : ∀ n o, hp2[n]? = some (some o) → (n < st.hp.length ∧ st.hp[n]? = some (some o) ∧ n ∉ ownsR c.args args ∧ ρ2 n = ρ n) ∨
            (st.hp.length ≤ n ∧ (canH res y)[n - st.hp.length]? = some (some o) ∧ ∃ v, (handles res us)[n - st.hp.length]? = some v ∧ ρ2 n = v) := by
          intro n o ho
          by_cases hn : n < st.hp.length
          · left
            rw [show hp2[n]? = (killAll st.hp (ownsR c.args args))[n]? from List.getElem?_append_left (by rw [killAll_len]; exact hn)] at ho
            obtain ⟨h1, h2⟩ := killAll_get _ _ _ _ ho
            exact ⟨hn, h1, h2, by simp [ρ2, hn]⟩
          · right
            rw [show hp2[n]? = (canH res y)[n - st.hp.length]? by
              show (killAll st.hp (ownsR c.args args) ++ canH res y)[n]? = _
              rw [List.getElem?_append_right (by rw [killAll_len]; omega), killAll_len]] at ho
            have hlt : n - st.hp.length < (handles res us).length := by rw [hlen]; exact (List.getElem?_eq_some_iff.1 ho).1
            exact ⟨by omega, ho, _, List.getElem?_eq_getElem hlt, by simp [ρ2, hn, List.getD_eq_getElem?_getD, List.getElem?_eq_getElem hlt]⟩
        have newBlk : ∀ (i : Nat) v b, (handles res us)[i]? = some v → blk v = some b → w.heap.size ≤ b ∨ ∃ m, m ∈ ownsR c.args args ∧ live st.hp m ∧ blk (ρ m) = some b := fun i v b hi hb => by
          rcases hnew b ⟨v, List.mem_iff_getElem?.2 ⟨i, hi⟩, hb⟩ with h1 | h1
          · exact .inl h1
          · exact .inr (ob b h1)
        have le : (cx B ρ st.hp w).le (cx B ρ2 hp2 w') := by
          refine ⟨hkept.size, fun b hb hF => hkept.block b hb (fun hc => ?_), fun b hb hF => ?_, by simp [hp2, killAll_len], fun n hn => by simp [ρ2, hn], rfl⟩
          · obtain ⟨m, _, hl, hmb⟩ := ob b hc
            exact hF (.inr ⟨m, hl, hmb⟩)
          · rcases hF with hF | ⟨n, ⟨o, ho⟩, hnb⟩
            · exact .inl hF
            · rcases live2 n o ho with ⟨_, h1, _, h2⟩ | ⟨_, _, v, h1, h2⟩
              · exact .inr ⟨n, ⟨o, h1⟩, by rw [← h2]; exact hnb⟩
              · rw [h2] at hnb
                rcases newBlk _ v b h1 hnb with h3 | ⟨m, _, hl, hmb⟩
                · simp only at hb; omega
                · exact .inr ⟨m, hl, hmb⟩
        -- what the results read
        have up : res.all AK.flat = true ∨ ∀ b, b < w'.heap.size → Forb B ρ2 hp2 b → Fb b ∨ ownBlk res us b := by
          refine hfl.imp id fun htk b _ hF => ?_
          have outs : Out b → ∃ m, m ∈ ownsR c.args args ∧ live st.hp m ∧ blk (ρ m) = some b := by
            rintro ⟨m, hm, h1, h2⟩
            rw [htk] at hm
            exact ⟨m, by simpa using hm, h1, h2⟩
          rcases hF with hF | ⟨n, ⟨o, ho⟩, hnb⟩
          · refine .inl ⟨.inl hF, fun hc => ?_⟩
            obtain ⟨m, _, hl, hmb⟩ := outs hc
            exact (h.h.own m b hl hmb).2 hF
          · rcases live2 n o ho with ⟨_, h1, h3, h2⟩ | ⟨_, _, v, h1, h2⟩
            · rw [h2] at hnb
              refine .inl ⟨.inr ⟨n, ⟨o, h1⟩, hnb⟩, fun hc => ?_⟩
              obtain ⟨m, hm, hl, hmb⟩ := outs hc
              have := h.h.sep m n b hl ⟨o, h1⟩ hmb hnb
              subst this
              exact h3 hm
            · rw [h2] at hnb
              exact .inr ⟨v, List.mem_iff_getElem?.2 ⟨_, h1⟩, hnb⟩
        have hR2 : StRel B ρ2 { st with hp := hp2 } a fs w' := by
          refine ⟨⟨h.h.kept.trans (S' := ownBlk c.args vs) hkept (fun b hb hc => ?_), fun n o ho => ?_, ?_, fun n b hn hnb => ?_, h.h.fb⟩, h.s.le le, h.kn, h.k.le le, h.d.le le, h.g⟩
          · obtain ⟨m, _, hl, hmb⟩ := ob b hc
            exact (h.h.own m b hl hmb).1.resolve_left (by omega)
          · rcases live2 n o ho with ⟨hn, h1, h3, h2⟩ | ⟨hn, h1, v, h3, h2⟩
            · rw [h2]
              refine (h.h.obj n o h1).le le (fun b hb => hkept.block b (h.h.live_block ⟨o, h1⟩ hb) (fun hc => ?_))
              obtain ⟨m, hm, hl, hmb⟩ := ob b hc
              have := h.h.sep m n b hl ⟨o, h1⟩ hmb hb
              subst this
              exact h3 hm
            · obtain ⟨u, hu, hr⟩ := canH_rel hR up _ o h1
              rw [h3] at hu
              cases hu
              rw [h2]
              exact hr _ rfl rfl
          · have key : ∀ n m b o o', hp2[n]? = some (some o) → hp2[m]? = some (some o') → blk (ρ2 n) = some b → blk (ρ2 m) = some b → n < st.hp.length → st.hp.length ≤ m → False := by
              intro n m b o o' hn hm hnb hmb h1 h2
              rcases live2 n o hn with ⟨_, h3, h4, h5⟩ | ⟨h3, _⟩
              · rcases live2 m o' hm with ⟨h6, _⟩ | ⟨_, _, v, h7, h8⟩
                · omega
                · rw [h5] at hnb
                  rw [h8] at hmb
                  rcases newBlk _ v b h7 hmb with h9 | ⟨q, hq, hl, hqb⟩
                  · have := h.h.live_block ⟨o, h3⟩ hnb; omega
                  · have := h.h.sep q n b hl ⟨o, h3⟩ hqb hnb
                    subst this
                    exact h4 hq
              · omega
            rintro n m b ⟨o, hn⟩ ⟨o', hm⟩ hnb hmb
            by_cases h1 : n < st.hp.length
            · by_cases h2 : m < st.hp.length
              · rcases live2 n o hn with ⟨_, h3, _, h4⟩ | ⟨h3, _⟩
                · rcases live2 m o' hm with ⟨_, h5, _, h6⟩ | ⟨h5, _⟩
                  · rw [h4] at hnb
                    rw [h6] at hmb
                    exact h.h.sep n m b ⟨o, h3⟩ ⟨o', h5⟩ hnb hmb
                  · omega
                · omega
              · exact (key n m b o o' hn hm hnb hmb h1 (by omega)).elim
            · by_cases h2 : m < st.hp.length
              · exact (key m n b o' o hm hn hmb hnb h2 (by omega)).elim
              · rcases live2 n o hn with ⟨h3, _⟩ | ⟨_, _, v, h3, h4⟩
                · omega
                · rcases live2 m o' hm with ⟨h5, _⟩ | ⟨_, _, u, h5, h6⟩
                  · omega
                  · rw [h4] at hnb
                    rw [h6] at hmb
                    have := hsep _ _ v u b h3 h5 hnb hmb
                    omega
          · obtain ⟨o, ho⟩ := hn
            rcases live2 n o ho with ⟨_, h3, _, h4⟩ | ⟨_, _, v, h3, h4⟩
            · rw [h4] at hnb
              exact h.h.own n b ⟨o, h3⟩ hnb
            · rw [h4] at hnb
              rcases newBlk _ v b h3 hnb with h5 | ⟨m, _, hl, hmb⟩
              · have hks := h.h.kept.size
                exact ⟨.inl (Nat.le_trans hks h5), fun hc => by have := (h.h.fb b hc).1; omega⟩
              · exact h.h.own m b hl hmb
        refine ⟨ρ2, hR2, can_rel (C := cx B ρ2 hp2 w') hR up ?_ ?_⟩
        · show st.hp.length + (canH res y).length ≤ (killAll st.hp (ownsR c.args args) ++ canH res y).length
          simp [killAll_len]
        · intro i v hv
          show ρ2 (st.hp.length + i) = v
          show (if st.hp.length + i < st.hp.length then ρ (st.hp.length + i) else (handles res us).getD (st.hp.length + i - st.hp.length) undef) = v
          rw [if_neg (by omega), Nat.add_sub_cancel_left, List.getD_eq_getElem?_getD, hv]
          rfl
      rcases hw with ⟨us, y, rfl, hpost, hkept, hR, hsep, hnew⟩ | ⟨hp1, hp3, u, y, rfl, hpost, hkept, hv⟩
      · obtain ⟨ρ2, h1, h2⟩ := after c.res us y hkept hR hsep hnew hflat'
        exact ⟨_, _, ρ2, hk y hR.wf hpost, h1, resVal_rel h2⟩
      · obtain ⟨ρ2, h1, _⟩ := after [] [] () hkept rfl (fun i j v u b hi => by simp [handles] at hi) (fun b hb => by obtain ⟨v, hv, _⟩ := hb; simp [handles] at hv) (.inl rfl)
        rw [if_pos hp1] at hkp
        simp only [canH, List.append_nil] at h1
        refine ⟨_, _, _, ρ2, rfl, hkp y (as_wf hv) hpost, h1, ?_⟩
        obtain ⟨cs, h3, h4⟩ := hv
        exact ⟨u, rfl, cs, flat_rep hp3 h3, h4⟩
    · exact hk.elim
  · exact hk.elim
end

/-! ### An environment, from what is known of the functions -/
def assoc {α : Type} : List (Nat × α) → Nat → Option α
  | [], _ => none
  | (i, c) :: l, n => if n = i then some c else assoc l n

def AllOk {α : Type} (Ok : Nat → α → Prop) : List (Nat × α) → Prop
  | [] => True
  | (i, c) :: l => Ok i c ∧ AllOk Ok l

theorem assoc_ok {α : Type} {Ok : Nat → α → Prop} : ∀ {l : List (Nat × α)}, AllOk Ok l → ∀ f c, assoc l f = some c → Ok f c
  | [], _, f, c, h => by cases h
  | (i, c') :: l, ha, f, c, h => by
    simp only [assoc] at h
    split at h
    · rename_i e
      cases h
      rw [e]
      exact ha.1
    · exact assoc_ok ha.2 f c h

def mkEnv (T : Ty) (l : List (Nat × CallSem)) (q : List (Nat × (CallSem → CallSem))) (d : List (Nat × DefSem)) (keep : List Nat) : Env := { toTy := T, fns := assoc l, keep := keep, seqs := assoc q, dfs := assoc d }

theorem mkEnv_ok {T : Ty} {gl : Gl} {l : List (Nat × CallSem)} {q : List (Nat × (CallSem → CallSem))} {d : List (Nat × DefSem)} (keep : List Nat) (hT : T.Ok) (hm : T.P.follows .mixedOrders = true) (h : AllOk (CallOk T.P gl) l) (hq : AllOk (SeqOk T.P gl) q) (hd : AllOk (DefOk T.P gl) d) : (mkEnv T l q d keep).Ok gl :=
  ⟨hT, assoc_ok h, assoc_ok hq, assoc_ok hd, hm⟩

/-- As mkEnv; some slots' bytes of a text are rows of the walk's own. -/
def mkEnvO (T : Ty) (l : List (Nat × CallSem)) (q : List (Nat × (CallSem → CallSem))) (d : List (Nat × DefSem)) (keep own : List Nat) : Env := { mkEnv T l q d keep with own := own }

theorem mkEnvO_ok {T : Ty} {gl : Gl} {l : List (Nat × CallSem)} {q : List (Nat × (CallSem → CallSem))} {d : List (Nat × DefSem)} (keep own : List Nat) (hT : T.Ok) (hm : T.P.follows .mixedOrders = true) (h : AllOk (CallOk T.P gl) l) (hq : AllOk (SeqOk T.P gl) q) (hd : AllOk (DefOk T.P gl) d) : (mkEnvO T l q d keep own).Ok gl :=
  ⟨hT, assoc_ok h, assoc_ok hq, assoc_ok hd, hm⟩

def bodyOf (f : Func) : Code := match f.body with | some c => c | none => .skip

structure Con.ok (P : Program) (gl : Gl) (f : Nat) (c : Con) : Prop where
  holds : c.holds P gl f
  call : CallOk P gl f (conSem c)

/-- Is it a function with a body, that is entered like any other? -/
def plainFn (fn : Func) : Bool := fn.body.isSome && !(fn.name == "runtime.NumGoroutine")
def Env.plain (E : Env) : Bool := E.yld.isNone && !E.rnd

theorem plain_body {fn : Func} (hp : plainFn fn = true) : fn.body = some (bodyOf fn) ∧ (fn.name == "runtime.NumGoroutine") = false := by
  simp only [plainFn, Bool.and_eq_true, Bool.not_eq_true'] at hp
  obtain ⟨body, hb⟩ := Option.isSome_iff_exists.1 hp.1
  refine ⟨?_, hp.2⟩
  unfold bodyOf
  rw [hb]

section
variable {T : Ty} {gl : Gl} {l : List (Nat × CallSem)} {q : List (Nat × (CallSem → CallSem))} {d : List (Nat × DefSem)} {keep : List Nat}

theorem con_ok {H : Hints} (hE : (mkEnv T l q d keep).Ok gl) {f : Nat} {fn : Func} (hf : T.P.funcs[f]? = some fn) (hp : plainFn fn = true) {c : Con} (hc : c.vc gl (mkEnv T l q d keep) H fn.ntmps fn.results.toList (bodyOf fn)) : c.ok T.P gl f := by
  obtain ⟨hb, hn⟩ := plain_body hp
  have h := con_body hE hf hn hb rfl rfl hc
  exact ⟨h, callOk_con h (fn_enter hf hn hb)⟩

theorem conO_ok {own : List Nat} {H : Hints} (hE : (mkEnvO T l q d keep own).Ok gl) {f : Nat} {fn : Func} (hf : T.P.funcs[f]? = some fn) (hp : plainFn fn = true) {c : Con} (hc : c.vc gl (mkEnvO T l q d keep own) H fn.ntmps fn.results.toList (bodyOf fn)) : c.ok T.P gl f := by
  obtain ⟨hb, hn⟩ := plain_body hp
  have h := con_body hE hf hn hb rfl rfl hc
  exact ⟨h, callOk_con h (fn_enter hf hn hb)⟩

/-- A function that is walked where it is called, its ways led together. -/
theorem inlJ_ok (H : Hints) (abs : Bool) (res : List AK) (hE : (mkEnv T l q d keep).Ok gl) {f : Nat} {fn : Func} (hf : T.P.funcs[f]? = some fn) (hp : plainFn fn = true) : CallOk T.P gl f (vcFnJ (mkEnv T l q d keep) H fn.ntmps fn.results.toList (bodyOf fn) abs res) := by
  obtain ⟨hb, hn⟩ := plain_body hp
  exact callOk_fnJ hE abs res hf hn hb rfl rfl

/-- A function that is walked where it is called. -/
theorem inl_ok (H : Hints) (hE : (mkEnv T l q d keep).Ok gl) {f : Nat} {fn : Func} (hf : T.P.funcs[f]? = some fn) (hp : plainFn fn = true) : CallOk T.P gl f (vcFn (mkEnv T l q d keep) H fn.ntmps fn.results.toList (bodyOf fn)) := by
  obtain ⟨hb, hn⟩ := plain_body hp
  exact callOk_fn hE hf hn hb rfl rfl

/-- A function whose result, a cut, is taken as a row of its own. -/
def cutSem (c : CallSem) : CallSem := fun args st kv kp => c args st (fun s st' => st'.trunc s kv) kp
theorem cut_ok {P : Program} {gl : Gl} {f : Nat} {c : CallSem} (h : CallOk P gl f c) : CallOk P gl f (cutSem c) := by
  intro args st kv kp B ρ a fs w vs hg hc hr hv
  have mono : ∀ e w', CallPost B a fs (fun s st' => st'.trunc s kv) kp e w' → CallPost B a fs kv kp e w' := by
    intro e w' he
    cases e with
    | returned v =>
      obtain ⟨s, st', ρ', h1, h2, h3⟩ := he
      obtain ⟨s2, st2, ρ2, h4, h5, h6⟩ := trunc_sound h2 h3 h1
      exact ⟨s2, st2, ρ2, h4, h5, h6⟩
    | panicked ch => exact he
    | outgrown => exact he
  rcases h args st _ kp B ρ a fs w vs hg hc hr hv with ⟨h1, h2⟩ | ⟨v, h1, h2⟩
  · exact .inl ⟨h1, Calls.mono h2 mono⟩
  · exact .inr ⟨v, h1, mono _ _ h2⟩

/-- A function that is ranged over. -/
theorem seq_ok (H : Hints) (hE : (mkEnv T l q d keep).Ok gl) {f : Nat} {fn : Func} (hf : T.P.funcs[f]? = some fn) (hp : plainFn fn = true) : SeqOk T.P gl f (vcSeq (mkEnv T l q d keep) H fn.ntmps fn.results.toList (bodyOf fn)) := by
  obtain ⟨hb, hn⟩ := plain_body hp
  exact seqOk_fn hE hf hn hb rfl

/-- A deferred function. -/
theorem def_ok (H : Hints) (hE : (mkEnv T l q d keep).Ok gl) {f : Nat} {fn : Func} (hf : T.P.funcs[f]? = some fn) (hp : plainFn fn = true) : DefOk T.P gl f (vcDef (mkEnv T l q d keep) H fn.ntmps fn.results.toList (bodyOf fn)) := by
  obtain ⟨hb, hn⟩ := plain_body hp
  exact defOk_fn hE hf hn hb rfl rfl
end

theorem owns_dat : ∀ (ks : List Kd) (r : List SV), ownsR (ks.map AK.dat) r = []
  | [], _ => rfl
  | _ :: _, [] => rfl
  | _ :: ks, _ :: r => owns_dat ks r

/-- A function without a body: what is known of its run. -/
theorem ext_ok {P : Program} {gl : Gl} {f : Nat} {ks : List Kd} {k : Kd} {pre : ATup (ks.map AK.dat) → Prop} {post : ATup (ks.map AK.dat) → ATup [AK.dat k] → Prop} (hk0 : k.flat = true)
    (hf : ∀ (w : World) (F : Nat → Prop) (x : ATup (ks.map AK.dat)) (vs : List Value), AReps w F (ks.map AK.dat) x vs → pre x → ∃ u y, (callFunc f vs.toArray).run P w = .ok (.value u) w ∧ post x (y, ()) ∧ VRep w (fun _ => False) k y u) :
    CallOk P gl f (conSem { args := ks.map AK.dat, res := [.dat k], pre := pre, post := post }) := by
  intro args st kv kp B ρ a fs w vs hB hk h hr
  unfold conSem at hk
  have hfl : ([AK.dat k] : List AK).all AK.flat = true := by simp [AK.flat, hk0]
  simp only [hfl, if_true, Bool.true_or, Bool.and_true] at hk
  split at hk
  · split at hk
    · rename_i x hx
      obtain ⟨hpre, hk, _⟩ := hk
      have hA : AReps w (fun b => B.Fb b) (ks.map AK.dat) x vs := resT_rel h (srcs := []) (fun b hb => .inl hb) hx hr (fun m _ => by simp)
      obtain ⟨u, y, h1, h2, h3⟩ := hf w _ x vs hA hpre
      refine .inr ⟨u, h1, _, _, ρ, hk (y, ()) ⟨as_wf h3, trivial⟩ h2, ?_, ?_⟩
      · simp only [canH, List.append_nil, owns_dat, killAll]
        exact h
      · simp only [canA, resVal]
        obtain ⟨cs, h4, h5⟩ := h3
        exact ⟨cs, flat_rep hk0 h4, h5⟩
    · exact hk.elim
  · exact hk.elim
end Go.Vc
end
section
/- From a law's contract to what its row says. -/
namespace Go.Vc
open Go.RowKit Go.ChangeShapes

/-- How much there is of it. -/
def Kd.bulk : (k : Kd) → k.T → Nat
  | .str, l => l.length + 1
  | .sl k, xs => (xs.map k.bulk).sum + 1
  | .pair a b, x => a.bulk x.1 + b.bulk x.2
  | .unit, _ => 0
  | .int _, _ => 1
  | .bool, _ => 1
  | .err, _ => 1

def AK.bulk : (a : AK) → a.T → Nat
  | .dat k, x => k.bulk x
  | .own _ k, xs => Kd.bulk (.sl k) xs
def ABulk : (l : List AK) → ATup l → Nat
  | [], _ => 0
  | a :: l, x => a.bulk x.1 + ABulk l x.2

theorem bulk_ints {i : IntKind} (xs : List Int) : Kd.bulk (.sl (.int i)) xs = xs.length + 1 := by
  show (xs.map (fun _ => 1)).sum + 1 = _
  induction xs with
  | nil => rfl
  | cons a l ih => simp only [List.map_cons, List.sum_cons, List.length_cons] at ih ⊢; omega
theorem bulk_len {k : Kd} (h : ∀ x, 1 ≤ k.bulk x) (xs : List k.T) : xs.length + 1 ≤ Kd.bulk (.sl k) xs := by
  show _ ≤ (xs.map k.bulk).sum + 1
  induction xs with
  | nil => simp
  | cons a l ih => have := h a; simp only [List.map_cons, List.sum_cons, List.length_cons]; omega
theorem bulk_sl_pos {k : Kd} (xs : List k.T) : 1 ≤ Kd.bulk (.sl k) xs := Nat.le_add_left _ _
theorem bulk_mem {k : Kd} {x : k.T} {xs : List k.T} (h : x ∈ xs) : k.bulk x + 1 ≤ Kd.bulk (.sl k) xs := by
  show _ ≤ (xs.map k.bulk).sum + 1
  induction xs with
  | nil => cases h
  | cons a l ih =>
    simp only [List.map_cons, List.sum_cons]
    rcases List.mem_cons.1 h with rfl | h
    · omega
    · have := ih h; omega

/-- How much a reading holds: any count that counts so. -/
structure Counts (H : Type) where
  d : DataW H → Nat
  ds : List (DataW H) → Nat
  nil : ds [] = 0
  cons : ∀ x l, ds (x :: l) = d x + ds l
  lit : ∀ l, 1 ≤ d (.lit l)
  str : ∀ b, b.length + 1 ≤ d (.lit (.string b))
  none : 1 ≤ d .nil
  sl : ∀ a b, ds a + 1 ≤ d (.slice a b)
  agg : ∀ a, ds a ≤ d (.agg a)

mutual
/-- A type holds data of a kind. -/
def kOk (E : Ty) : Nat → Nat → Kd → Bool
  | 0, _, _ => false
  | n + 1, t, k => match E.d t, k with
    | .int i, .int j => decide (i = j)
    | .bool, .bool => true
    | .str, .str => true
    | .sl e, .sl k => kOk E n e k && decide (E.sz e = some k.sz) && decide (0 < k.sz)
    | .st fs, k => fsOk E n 0 fs k && decide (E.sz t = some k.sz)
    | _, _ => false
def fsOk (E : Ty) : Nat → Nat → List (Nat × Nat) → Kd → Bool
  | 0, _, _, _ => false
  | n + 1, o, f :: r, .pair a b => kOk E n f.1 a && decide (f.2 = o) && decide (E.sz f.1 = some a.sz) &&
      (match r, b with
      | [], .unit => true
      | [g], _ => kOk E n g.1 b && decide (g.2 = o + a.sz) && decide (E.sz g.1 = some b.sz)
      | r, _ => fsOk E n (o + a.sz) r b)
  | _, _, _, _ => false
end

section
variable {H : Type} {enc : TypeId × Value → H} {w : World}

theorem sum_map_le {α : Type} {f : Nat → Nat} {g : α → Nat} {X : Nat → α} : ∀ (l : List Nat), (∀ i ∈ l, g (X i) ≤ f i) → ((l.map X).map g).sum ≤ (l.map f).sum
  | [], _ => by simp
  | i :: l, h => by
    have h1 := h i (by simp)
    have h2 := sum_map_le l (fun j hj => h j (by simp [hj]))
    simp only [List.map_cons, List.sum_cons]
    omega

theorem counts_map {C : Counts H} {D : Nat → DataW H} : ∀ (l : List Nat), C.ds (l.map D) = (l.map fun i => C.d (D i)).sum
  | [] => by simp [C.nil]
  | i :: l => by simp [C.cons, counts_map l]

theorem cellsOf_sz {E : Ty} (hE : E.Ok) {t n : Nat} (h : E.sz t = some n) : E.P.cellsOf t = n := by
  obtain ⟨inf, h1, h2, _⟩ := hE.sz h
  simp [Program.cellsOf, h1, h2]

theorem wf_inR {k : IntKind} {n : Int} (h : (Lit.int k n).wf = true) : InR k n := by
  simpa [Lit.wf, InR] using h

theorem trod_int' {P : Program} {fuel t : Nat} {i : IntKind} {cs : List Value} {x : DataW H × List MemPlace} (ht : P.underlying t = some (.int i)) (h : DataW.trod enc P w 0 (fun _ => true) true fuel t cs = some x) :
    ∃ n, cs = [.int i n] ∧ InR i n ∧ x = (.lit (.int i n), []) := by
  cases fuel with
  | zero => simp [DataW.trod] at h
  | succ fuel =>
    unfold DataW.trod at h
    simp only [ht] at h
    split at h
    all_goals first
      | (rename_i e; cases e; split at h
         · rename_i hc; cases h; obtain ⟨rfl, hw⟩ := hc; exact ⟨_, rfl, wf_inR hw, rfl⟩
         · cases h)
      | (rename_i e; cases e; done)
      | (cases h; done)
      | (rename_i e _; cases e; done)
      | (rename_i e _ _; cases e; done)

theorem trod_bool' {P : Program} {fuel t : Nat} {cs : List Value} {x : DataW H × List MemPlace} (ht : P.underlying t = some .bool) (h : DataW.trod enc P w 0 (fun _ => true) true fuel t cs = some x) :
    ∃ b, cs = [.bool b] ∧ x = (.lit (.bool b), []) := by
  cases fuel with
  | zero => simp [DataW.trod] at h
  | succ fuel =>
    unfold DataW.trod at h
    simp only [ht] at h
    split at h
    all_goals first
      | (cases h; exact ⟨_, rfl, rfl⟩)
      | (rename_i e; cases e; done)
      | (cases h; done)
      | (rename_i e _; cases e; done)
      | (rename_i e _ _; cases e; done)

theorem trod_str' {P : Program} {fuel t : Nat} {cs : List Value} {x : DataW H × List MemPlace} (ht : P.underlying t = some .string) (h : DataW.trod enc P w 0 (fun _ => true) true fuel t cs = some x) :
    ∃ s : ByteArray, cs = [.string s] ∧ s.size ≤ maxLen ∧ x = (.lit (.string s.data.toList), []) := by
  cases fuel with
  | zero => simp [DataW.trod] at h
  | succ fuel =>
    unfold DataW.trod at h
    simp only [ht] at h
    split at h
    all_goals first
      | (split at h
         · rename_i hc; cases h; exact ⟨_, rfl, hc, rfl⟩
         · cases h)
      | (rename_i e; cases e; done)
      | (cases h; done)
      | (rename_i e _; cases e; done)
      | (rename_i e _ _; cases e; done)

theorem trod_st' {P : Program} {fuel t : Nat} {fs : Array Field} {cs : List Value} {x : DataW H × List MemPlace} (ht : P.underlying t = some (.struct fs)) (h : DataW.trod enc P w 0 (fun _ => true) true fuel t cs = some x) :
    ∃ n xs, cs.length = P.cellsOf t ∧ (fs.toList.mapM fun f => DataW.trod enc P w 0 (fun _ => true) true n f.type ((cs.drop f.offset).take (P.cellsOf f.type))) = some xs ∧ x = (.agg (xs.map (·.1)), xs.flatMap (·.2)) := by
  cases fuel with
  | zero => simp [DataW.trod] at h
  | succ fuel =>
    unfold DataW.trod at h
    simp only [ht] at h
    split at h
    · rename_i hc
      obtain ⟨xs, h1, h2⟩ := Option.map_eq_some_iff.1 h
      exact ⟨fuel, xs, hc, h1, h2.symm⟩
    · cases h

/-- A reading of plain data, opened. -/
theorem trod_rep {E : Ty} (hE : E.Ok) (C : Counts H) : ∀ (n : Nat),
    (∀ (t : Nat) (k : Kd) (fuel : Nat) (cs : List Value) (x : DataW H × List MemPlace), kOk E n t k = true → DataW.trod enc E.P w 0 (fun _ => true) true fuel t cs = some x → ∃ y : k.T, Rep w (fun _ => False) k y cs ∧ k.bulk y ≤ C.d x.1) ∧
    (∀ (o : Nat) (fs : List Field) (k : Kd) (fuel : Nat) (cs : List Value) (xs : List (DataW H × List MemPlace)), fsOk E n o (fs.map fun f => (f.type, f.offset)) k = true →
      (fs.mapM fun f => DataW.trod enc E.P w 0 (fun _ => true) true fuel f.type ((cs.drop f.offset).take (E.P.cellsOf f.type))) = some xs →
      ∃ y : k.T, Rep w (fun _ => False) k y ((cs.drop o).take k.sz) ∧ k.bulk y ≤ C.ds (xs.map (·.1)))
  | 0 => ⟨fun _ _ _ _ _ h => by simp [kOk] at h, fun _ _ _ _ _ _ h => by simp [fsOk] at h⟩
  | n + 1 => by
    obtain ⟨ihA, ihB⟩ := trod_rep hE C n
    refine ⟨fun t k fuel cs x hk hx => ?_, fun o fs k fuel cs xs hk hx => ?_⟩
    · have hd := hE.d t
      simp only [kOk] at hk
      split at hk
      · rename_i i j e
        rw [e] at hd
        have hij : i = j := of_decide_eq_true hk
        subst hij
        obtain ⟨m, rfl, h1, rfl⟩ := trod_int' hd hx
        exact ⟨m, ⟨rfl, h1⟩, C.lit _⟩
      · rename_i e
        rw [e] at hd
        obtain ⟨b, rfl, rfl⟩ := trod_bool' hd hx
        exact ⟨b, rfl, C.lit _⟩
      · rename_i e
        rw [e] at hd
        obtain ⟨s, rfl, h1, rfl⟩ := trod_str' hd hx
        refine ⟨bs s, ⟨s, rfl, rfl, by simpa [maxLen] using h1⟩, ?_⟩
        have := C.str s.data.toList
        simp only [Kd.bulk, bs, List.length_map]
        exact this
      · rename_i e' k' e
        rw [e] at hd
        simp only [Bool.and_eq_true, decide_eq_true_eq] at hk
        obtain ⟨⟨hk1, hk2⟩, hk3⟩ := hk
        have hcell := cellsOf_sz hE hk2
        rcases Go.Deep.open_slice hd hx with ⟨rfl, rfl⟩ | ⟨a, len, cap, m, n', D, Pl, rfl, hb, hl, hm, hmm, rfl, hel⟩
        · exact ⟨[], ⟨none, 0, rfl, Nat.le_refl _, by omega, fun h => absurd rfl h⟩, by simpa [Kd.bulk] using C.none⟩
        · simp only [if_true] at hmm
          subst hmm
          haveI : Inhabited k'.T := ⟨k'.dft⟩
          obtain ⟨X, hX⟩ := Go.Deep.choose_lt (α := k'.T) (n := len) (p := fun i y => ∃ cs', World.cells? w 0 (a.add (i * E.P.cellsOf e')) (E.P.cellsOf e') = some cs' ∧ Rep w (fun _ => False) k' y cs' ∧ k'.bulk y ≤ C.d (D i)) (fun i hi => by
            obtain ⟨cs', h1, h2⟩ := hel i (by omega)
            obtain ⟨y, h3, h4⟩ := ihA _ _ _ _ _ hk1 h2
            exact ⟨y, cs', h1, h3, h4⟩)
          refine ⟨(List.range len).map X, ⟨some a, m, by simp, by simpa using hl, by simpa [maxLen] using hm, fun hne => ⟨a, rfl, ?_, fun h => h, fun i y hy => ?_⟩⟩, ?_⟩
          · have hpos : 0 < len := by
              cases len with
              | zero => simp at hne
              | succ n => omega
            obtain ⟨cs', h1, _, _⟩ := hX 0 hpos
            obtain ⟨_, h2, h3⟩ := World.cells?_some h1
            have hc0 : 0 < cs'.length := by omega
            have := h3 0 (by omega)
            rw [List.getElem?_eq_getElem hc0] at this
            have := cell_lt this
            rwa [add_block, add_block] at this
          · rw [List.getElem?_map] at hy
            obtain ⟨i', hi', rfl⟩ := Option.map_eq_some_iff.1 hy
            have hi := (List.getElem?_eq_some_iff.1 hi').1
            have hii := (List.getElem?_eq_some_iff.1 hi').2
            simp only [List.length_range] at hi
            simp only [List.getElem_range] at hii
            subst hii
            obtain ⟨cs', h1, h2, _⟩ := hX i hi
            refine ⟨cs', h2, fun j u hu => ?_⟩
            obtain ⟨_, h3, h4⟩ := World.cells?_some h1
            have hj := (List.getElem?_eq_some_iff.1 hu).1
            have := h4 j (by omega)
            rw [hu, addr_add_add, hcell] at this
            exact this
          · have h1 := C.sl ((List.range len).map D) ((List.range (m - len)).map fun j => D (len + j))
            have h2 : (((List.range len).map X).map k'.bulk).sum ≤ C.ds ((List.range len).map D) := by
              rw [counts_map]
              exact sum_map_le _ (fun i hi => by
                obtain ⟨_, _, _, h⟩ := hX i (by simpa using hi)
                exact h)
            simp only [Kd.bulk]
            omega
      · rename_i k' fs e
        rw [e] at hd
        obtain ⟨hd1, hd2⟩ := hd
        simp only [Bool.and_eq_true, decide_eq_true_eq] at hk
        obtain ⟨hk1, hk2⟩ := hk
        obtain ⟨m, xs, h1, h2, rfl⟩ := trod_st' hd1 hx
        obtain ⟨y, h3, h4⟩ := ihB 0 (E.P.fieldsOf t).toList _ m cs xs (by rw [hd2]; exact hk1) h2
        rw [List.drop_zero, List.take_of_length_le (by rw [h1, cellsOf_sz hE hk2]; exact Nat.le_refl _)] at h3
        exact ⟨y, h3, Nat.le_trans h4 (C.agg _)⟩
      · cases hk
    · cases fs with
      | nil => cases k <;> simp [fsOk] at hk
      | cons f r =>
        cases k with
        | pair a b =>
          simp only [List.map_cons, fsOk, Bool.and_eq_true, decide_eq_true_eq] at hk
          obtain ⟨⟨⟨hk1, hk2⟩, hk3⟩, hk4⟩ := hk
          rw [List.mapM_cons] at hx
          obtain ⟨x1, h1, hx⟩ := Option.bind_eq_some_iff.1 hx
          obtain ⟨xr, h2, hx⟩ := Option.bind_eq_some_iff.1 hx
          cases hx
          obtain ⟨y1, h3, h4⟩ := ihA _ _ _ _ _ hk1 h1
          rw [cellsOf_sz hE hk3, hk2] at h3
          have two : ∀ y2 : b.T, Rep w (fun _ => False) b y2 ((cs.drop (o + a.sz)).take b.sz) → b.bulk y2 ≤ C.ds (xr.map (·.1)) →
              ∃ y : (Kd.pair a b).T, Rep w (fun _ => False) (.pair a b) y ((cs.drop o).take (Kd.pair a b).sz) ∧ (Kd.pair a b).bulk y ≤ C.ds ((x1 :: xr).map (·.1)) := by
            intro y2 h5 h6
            refine ⟨(y1, y2), ⟨_, _, ?_, h3, h5⟩, ?_⟩
            · show (cs.drop o).take (a.sz + b.sz) = _
              rw [List.take_add, List.drop_drop]
            · rw [List.map_cons, C.cons]
              simp only [Kd.bulk]
              omega
          split at hk4
          · rename_i e1
            have : r = [] := by simpa using e1
            subst this
            have : xr = [] := by simpa using h2.symm
            subst this
            exact two () (by show (cs.drop (o + a.sz)).take 0 = []; simp) (by simp [Kd.bulk])
          · rename_i g e1
            obtain ⟨g', r', rfl, rfl, hr'⟩ : ∃ g' r', r = g' :: r' ∧ g = (g'.type, g'.offset) ∧ r' = [] := by
              cases r with
              | nil => simp at e1
              | cons g' r' =>
                simp only [List.map_cons, List.cons.injEq, List.map_eq_nil_iff] at e1
                exact ⟨g', r', rfl, e1.1.symm, e1.2⟩
            subst hr'
            simp only [Bool.and_eq_true, decide_eq_true_eq] at hk4
            obtain ⟨⟨hk5, hk6⟩, hk7⟩ := hk4
            rw [List.mapM_cons] at h2
            obtain ⟨x2, h7, h2⟩ := Option.bind_eq_some_iff.1 h2
            have hx2 : xr = [x2] := by simpa using h2.symm
            subst hx2
            obtain ⟨y2, h8, h9⟩ := ihA _ _ _ _ _ hk5 h7
            rw [cellsOf_sz hE hk7, hk6] at h8
            exact two y2 h8 (by simp [C.cons, C.nil]; exact h9)
          · obtain ⟨y2, h8, h9⟩ := ihB _ _ _ _ _ _ hk4 h2
            exact two y2 h8 h9
        | _ => simp [fsOk] at hk

theorem fsOk_agg {E : Ty} {n o : Nat} {fs : List (Nat × Nat)} {k : Kd} (h : fsOk E n o fs k = true) : k.isAgg = true := by
  cases n with
  | zero => simp [fsOk] at h
  | succ n => cases fs <;> cases k <;> simp_all [fsOk, Kd.isAgg]

theorem vrep_of {E : Ty} (hE : E.Ok) {n t : Nat} {k : Kd} {y : k.T} {v : Value} {F : Nat → Prop} {r : Reach} {base : Nat} (hk : kOk E n t k = true) (hv : Value.okWide E.P w r base t v) (hr : Rep w F k y v.cells.toList) : VRep w F k y v := by
  have hd := hE.d t
  cases n with
  | zero => simp [kOk] at hk
  | succ n =>
    simp only [kOk] at hk
    split at hk
    · rename_i i j e
      rw [e] at hd
      obtain ⟨m, rfl⟩ := WideShapes.okWide_int hd hv
      exact ⟨_, hr, rfl⟩
    · rename_i e
      rw [e] at hd
      have hd : E.P.underlying t = some .bool := hd
      obtain ⟨b, rfl⟩ : ∃ b, v = .bool b := by
        simp only [Value.okWide, hd, Cell.okWide] at hv
        cases v <;> simp_all [Cell.ok]
      exact ⟨_, hr, rfl⟩
    · rename_i e
      rw [e] at hd
      obtain ⟨s, rfl⟩ := WideShapes.okWide_string hd hv
      exact ⟨_, hr, rfl⟩
    · rename_i e' k' e
      rw [e] at hd
      obtain ⟨a, l, c, rfl⟩ := WideShapes.okWide_slice hd hv
      exact ⟨_, hr, rfl⟩
    · rename_i e
      rw [e] at hd
      obtain ⟨hd1, _⟩ := hd
      simp only [Value.okWide, hd1] at hv
      obtain ⟨cs, rfl, _⟩ := hv
      refine ⟨cs.toList, hr, ?_⟩
      simp only [Bool.and_eq_true] at hk
      rw [if_pos (fsOk_agg hk.1)]
    · cases hk

def kAllOk (E : Ty) : List Nat → List Kd → Bool
  | [], [] => true
  | t :: ts, k :: ks => kOk E 20 t k && kAllOk E ts ks
  | _, _ => false

/-- All arguments, opened. -/
theorem trodAll_reps {E : Ty} (hE : E.Ok) (C : Counts H) {base : Nat} : ∀ {ts : List Nat} {ks : List Kd} {vs : List Value} {ds : List (DataW H)} {p : List MemPlace}, kAllOk E ts ks = true →
    (∀ (j : Nat) (t : Nat) (v : Value), ts[j]? = some t → vs[j]? = some v → Value.okWide E.P w .any base t v) → DataW.TrodAll enc E.P w 0 (fun _ => true) true ts vs ds p →
    ∃ x : ATup (ks.map AK.dat), AReps w (fun _ => False) (ks.map AK.dat) x vs ∧ ABulk _ x ≤ C.ds ds ∧ ds.length = ts.length
  | [], [], [], [], p, _, _, h => ⟨(), rfl, Nat.zero_le _, rfl⟩
  | [], [], _ :: _, _, p, _, _, h => h.elim
  | [], [], [], _ :: _, p, _, _, h => by simp [DataW.TrodAll] at h
  | [], _ :: _, _, _, _, hk, _, _ => by simp [kAllOk] at hk
  | _ :: _, [], _, _, _, hk, _, _ => by simp [kAllOk] at hk
  | t :: ts, k :: ks, vs, ds, p, hk, hv, h => by
    cases vs with
    | nil => simp [DataW.TrodAll] at h
    | cons v vs =>
      cases ds with
      | nil => simp [DataW.TrodAll] at h
      | cons d ds =>
        obtain ⟨p1, q, h1, h2, _⟩ := h
        simp only [kAllOk, Bool.and_eq_true] at hk
        obtain ⟨fuel, h3⟩ := h1
        obtain ⟨y, h4, h5⟩ := (trod_rep hE C 20).1 t k fuel _ _ hk.1 h3
        obtain ⟨x, h6, h7, h8⟩ := trodAll_reps hE C hk.2 (fun j t v ht hv' => hv (j + 1) t v ht hv') h2
        refine ⟨(y, x), ⟨v, vs, rfl, vrep_of hE hk.1 (hv 0 t v rfl rfl) h4, h6⟩, ?_, by simp [h8]⟩
        rw [C.cons]
        show k.bulk y + ABulk (ks.map AK.dat) x ≤ _
        exact Nat.add_le_add h5 h7

theorem handles_dat : ∀ (ks : List Kd) (vs : List Value), handles (ks.map AK.dat) vs = []
  | [], _ => rfl
  | _ :: _, [] => rfl
  | _ :: ks, _ :: vs => handles_dat ks vs

/-- All arguments read as before. -/
theorem below_trodAll {P : Program} (hl : laidOutB P = true) {W' : World} (hb : Below w.heap.size w W') : ∀ {ts : List Nat} {vs : List Value} {ds : List (DataW H)} {p : List MemPlace},
    (ts.all fun t => P.readableRec t && decide (t < P.types.size)) = true → (∀ x ∈ p, x.block < w.heap.size) → DataW.TrodAll enc P w 0 (fun _ => true) true ts vs ds p →
    DataW.TrodAll enc P W' 0 (fun b => decide (b < w.heap.size)) true ts vs ds p
  | [], [], [], p, _, _, h => h
  | [], _ :: _, _, p, _, _, h => by simp [DataW.TrodAll] at h
  | [], [], _ :: _, p, _, _, h => by simp [DataW.TrodAll] at h
  | t :: ts, vs, ds, p, hr, hlt, h => by
    cases vs with
    | nil => simp [DataW.TrodAll] at h
    | cons v vs =>
      cases ds with
      | nil => simp [DataW.TrodAll] at h
      | cons d ds =>
        obtain ⟨p1, q, h1, h2, rfl⟩ := h
        simp only [List.all_cons, Bool.and_eq_true, decide_eq_true_eq] at hr
        exact ⟨p1, q, Below.trod hl hr.1.1 hr.1.2 h1 hb (fun x hx => hlt x (List.mem_append.2 (.inl hx))), below_trodAll hl hb hr.2 (fun x hx => hlt x (List.mem_append.2 (.inr hx))) h2, rfl⟩

/-- WHAT A LAW's ROW ASKS OF A CALL, from the law's contract. -/
theorem law_call {E : Ty} (hE : E.Ok) (C : Counts H) {f : Nat} {fn : Func} {ks : List Kd} {pre : ATup (ks.map AK.dat) → Prop} {tb : Nat}
    {gl : Gl} (hc : ({ args := ks.map AK.dat, res := [AK.dat .bool], pre := pre, post := fun _ y => y.1 = true } : Con).holds E.P gl f) (hgl : GlOk gl w (fun _ => False)) (hl : laidOutB E.P = true)
    (hp : (fn.params.toList.all fun t => E.P.readableRec t && decide (t < E.P.types.size)) = true) (hk : kAllOk E fn.params.toList ks = true) (hres : fn.resultTypes.toList = [tb]) (htb : E.P.underlying tb = some .bool)
    {s : ChangeSpec} (hs : s.vars = []) (hfn : ∀ ds : List (DataW H), ds.length = fn.params.toList.length → s.fn H ds = { results := [.lit (.bool true)], args := ds })
    {base : Nat} {args : Array Value} {ds gs : List (DataW H)} {before : List MemPlace}
    (hval : ∀ (j : Nat) t v, fn.params[j]? = some t → args[j]? = some v → Value.okWide E.P w .any base t v)
    (hW : DataW.Whole enc E.P fn.params.toList s.vars false w args.toList ds gs before)
    (hpre : ∀ x : ATup (ks.map AK.dat), ABulk _ x ≤ C.ds (ds ++ gs) → pre x) :
    Calls E.P f args w fun e W' => ∃ v, e = .returned v ∧ s.post enc E.P fn false true false false w args v W' := by
  have hW' := hW
  obtain ⟨p, q, hA, hV, rfl, _, _⟩ := hW
  rw [hs] at hV
  obtain ⟨rfl, rfl⟩ := trodVars_none hV
  rw [List.append_nil] at hpre hW'
  obtain ⟨x, hx, hb, hlen⟩ := trodAll_reps hE C hk (fun j t v ht hv => hval j t v (by simpa using ht) (by simpa using hv)) hA
  have none : ∀ b, ¬ ownBlk (ks.map AK.dat) args.toList b := fun b hb => by
    obtain ⟨v, hv, _⟩ := hb
    rw [handles_dat] at hv
    cases hv
  have hFF : (fun b => False ∨ ownBlk (ks.map AK.dat) args.toList b) = fun _ => False := by
    funext b
    exact propext ⟨fun h => h.elim id (none b), fun h => h.elim⟩
  have hcall := hc w (fun _ => False) x args.toList (fun _ h => h.elim) (by rw [hFF]; exact hgl)
    (by
      have : (fun b => False ∨ ownBlk (ks.map AK.dat) args.toList b) = fun _ => False := by
        funext b
        exact propext ⟨fun h => h.elim id (none b), fun h => h.elim⟩
      rw [this]
      exact hx)
    (fun i j v u b hi => by rw [handles_dat] at hi; simp at hi) (hpre x hb)
  rw [Array.toArray_toList] at hcall
  refine hcall.mono fun e W' hw => ?_
  rcases hw with hw | hw
  case inr => cases hw.1
  obtain ⟨us, y, rfl, hy, hkept, hrep, _, _⟩ := hw
  have hbelow : Below w.heap.size w W' := Kept.below ⟨hkept.os, hkept.tape, hkept.output, hkept.size, fun b hb _ => hkept.block b hb (none b)⟩
  obtain ⟨v, r, rfl, h1, h2⟩ := hrep
  obtain rfl : r = [] := h2
  have hv := VRep_bool.1 h1
  subst hv
  have hy : y.1 = true := hy
  rw [hy]
  have hsz : fn.resultTypes.size = 1 := by
    have := congrArg List.length hres
    simpa using this
  refine ⟨_, rfl, ds, [], p, [], p, [], hW', ?_, ?_, ?_, hbelow.frame _, fun h => by cases h⟩
  · rw [List.append_nil, hfn ds hlen, hres, hsz]
    exact trodAll_mk1 (shut_bool htb true)
  · rw [List.append_nil, hfn ds hlen]
    exact below_trodAll hl hbelow hp (fun x hx => by simpa using hW'.lt x hx) hA
  · rw [List.append_nil, hfn ds hlen, hs]
    rfl
end
theorem dft_int (k : IntKind) : Kd.dft (Kd.int k) = (0 : Int) := rfl
theorem dft_sl (k : Kd) : Kd.dft (Kd.sl k) = ([] : List k.T) := rfl
theorem dft_str : Kd.dft Kd.str = ([] : List Int) := rfl
end Go.Vc
end
section
/- Package variables, from what a row lists. -/
namespace Go.Vc
open Go.RowKit Go.Lib

def inRB (k : IntKind) (z : Int) : Bool := decide (k.min ≤ z) && decide (z ≤ k.max)
theorem inRB_eq {k : IntKind} {z : Int} (h : inRB k z = true) : InR k z := by
  simp only [inRB, Bool.and_eq_true, decide_eq_true_eq] at h
  exact h

theorem gl_ints {P : Program} {w : World} {name : String} {k : IntKind} {zs : List Int} {g : Nat} {t e : TypeId} {n : Nat} {d : DataW Unit}
    (hg : P.globalNamed name = some g) (hty : (P.globals[g]?).map (·.type) = some t) (ht : P.underlying t = some (.array n e)) (he : P.underlying e = some (.int k)) (hce : P.cellsOf e = 1) (hct : P.cellsOf t = n)
    (hz : zs.all (inRB k) = true) (hne : 0 < zs.length) (hd : d = tabData k zs) (h : VarReads P w name d) : g < w.heap.size ∧ ¬ False ∧ GV.ok w (fun _ => False) g (.arr (.int k) zs) := by
  subst hd
  obtain ⟨g', t', cs, fuel, p, hg', ht', hvar, hd⟩ := h
  obtain rfl := Option.some.inj (hg.symm.trans hg')
  obtain rfl := Option.some.inj (hty.symm.trans ht')
  have hc := cells_of_tab ht he hce hct hd
  have cell : ∀ i, i < zs.length → w.cell? ⟨g, i, none⟩ = some (.int k (zs.getD i 0)) := fun i hi => by
    have := World.var?_cell hg hvar i
    rw [this, ← Array.getElem?_toList, hc]
    simp [List.getD, hi]
  refine ⟨cell_lt (cell 0 hne), id, fun i x hx => ?_⟩
  obtain ⟨hi, hx2⟩ := List.getElem?_eq_some_iff.1 hx
  refine ⟨[.int k x], ⟨rfl, ?_⟩, fun j u hu => ?_⟩
  · simp only [List.all_eq_true] at hz
    exact inRB_eq (hz x (List.mem_iff_getElem?.2 ⟨i, hx⟩))
  · cases j with
    | zero =>
      cases hu
      rw [addr_add]
      have := cell i hi
      have e : zs.getD i 0 = x := by rw [List.getD_eq_getElem?_getD, hx]; rfl
      rw [e] at this
      simpa [Kd.sz] using this
    | succ j => simp at hu

/-- A table of pairs of integers. -/
theorem gl_pairs {P : Program} {w : World} {name : String} {k : IntKind} {zs : List (Int × Int)} {g : Nat} {t e : TypeId} {n : Nat} {d : DataW Unit} {fs : Array Field}
    (hg : P.globalNamed name = some g) (hty : (P.globals[g]?).map (·.type) = some t) (ht : P.underlying t = some (.array n e)) (he : P.underlying e = some (.struct fs)) (hfs : fs.size = 2)
    (hf : ∀ (i : Nat) (f : Field), fs[i]? = some f → P.underlying f.type = some (.int k) ∧ f.offset = i ∧ P.cellsOf f.type = 1) (hce : P.cellsOf e = 2) (hct : P.cellsOf t = n * 2)
    (hz : zs.all (fun z => inRB k z.1 && inRB k z.2) = true) (hne : 0 < zs.length) (hn : zs.length = n) (hd : d = .agg (zs.map fun z => .agg [.lit (.int k z.1), .lit (.int k z.2)])) (h : VarReads P w name d) :
    g < w.heap.size ∧ ¬ False ∧ GV.ok w (fun _ => False) g (.arr (.pair (.int k) (.int k)) zs) := by
  subst hd
  obtain ⟨g', t', cs, fuel, p, hg', ht', hvar, hd⟩ := h
  obtain rfl := Option.some.inj (hg.symm.trans hg')
  obtain rfl := Option.some.inj (hty.symm.trans ht')
  have elem : ∀ i z, zs[i]? = some z → (cs.toList.drop (i * 2)).take 2 = [.int k z.1, .int k z.2] := by
    intro i z hi
    have hi' := (List.getElem?_eq_some_iff.1 hi).1
    obtain ⟨fuel', d, q, h1, h2⟩ := array_elem ht hd i (by omega)
    rw [List.getElem?_map, hi] at h1
    cases h1
    rw [hce] at h2
    exact ints_of_struct (zs := [z.1, z.2]) he (fun j f hj => hf j f hj) (by rw [hce, hfs]) h2
  have cell : ∀ i z, zs[i]? = some z → w.cell? ⟨g, i * 2, none⟩ = some (.int k z.1) ∧ w.cell? ⟨g, i * 2 + 1, none⟩ = some (.int k z.2) := by
    intro i z hi
    have h1 := elem i z hi
    have h2 := congrArg (·[0]?) h1
    have h3 := congrArg (·[1]?) h1
    simp only [List.getElem?_take, List.getElem?_drop] at h2 h3
    rw [World.var?_cell hg hvar, World.var?_cell hg hvar, ← Array.getElem?_toList, ← Array.getElem?_toList]
    exact ⟨by simpa using h2, by simpa using h3⟩
  refine ⟨?_, id, fun i x hx => ?_⟩
  · exact cell_lt (cell 0 zs[0] (List.getElem?_eq_getElem hne)).1
  · simp only [List.all_eq_true, Bool.and_eq_true] at hz
    have hr := hz x (List.mem_iff_getElem?.2 ⟨i, hx⟩)
    refine ⟨[.int k x.1, .int k x.2], ⟨[_], [_], rfl, ⟨rfl, inRB_eq hr.1⟩, ⟨rfl, inRB_eq hr.2⟩⟩, fun j u hu => ?_⟩
    obtain ⟨h1, h2⟩ := cell i x hx
    rw [addr_add]
    simp only [Kd.sz, Nat.zero_add]
    match j, hu with
    | 0, hu => cases hu; exact h1
    | 1, hu => cases hu; exact h2
    | j + 2, hu => simp at hu

/-- A struct of two integers of one kind. -/
def pairB (P : Program) (e : TypeId) (k : IntKind) : Bool :=
  match P.underlying e with
  | some (.struct fs) => fs.size == 2 && (List.range 2).all fun i => match fs[i]? with
    | some f => (match P.underlying f.type with | some (.int k') => k' == k | _ => false) && f.offset == i && P.cellsOf f.type == 1
    | none => false
  | _ => false
theorem pairB_eq {P : Program} {e : TypeId} {k : IntKind} (h : pairB P e k = true) : ∃ fs : Array Field, P.underlying e = some (.struct fs) ∧ fs.size = 2 ∧ ∀ (i : Nat) (f : Field), fs[i]? = some f → P.underlying f.type = some (.int k) ∧ f.offset = i ∧ P.cellsOf f.type = 1 := by
  unfold pairB at h
  split at h
  · rename_i fs hu
    simp only [Bool.and_eq_true, beq_iff_eq, List.all_eq_true, List.mem_range] at h
    refine ⟨fs, hu, h.1, fun i f hf => ?_⟩
    have hi : i < 2 := by
      obtain ⟨hi, _⟩ := Array.getElem?_eq_some_iff.1 hf
      omega
    have := h.2 i hi
    rw [hf] at this
    simp only [Bool.and_eq_true, beq_iff_eq] at this
    obtain ⟨⟨h1, h2⟩, h3⟩ := this
    split at h1
    · rename_i k' hk
      rw [beq_iff_eq] at h1
      subst h1
      exact ⟨hk, h2, h3⟩
    · cases h1
  · cases h
end Go.Vc
end
section
/- Functions of the library whose contracts are proved elsewhere. -/
namespace Go.Vc
open Go.RowKit

theorem AReps.flat_mv {w w' : World} {F F' : Nat → Prop} : ∀ {ks : List Kd} {x : ATup (ks.map AK.dat)} {vs : List Value}, (ks.map AK.dat).all AK.flat = true → AReps w F (ks.map AK.dat) x vs → AReps w' F' (ks.map AK.dat) x vs
  | [], _, _, _, h => h
  | k :: ks, x, vs, hF, h => by
    obtain ⟨v, r, rfl, ⟨cs, h1, h2⟩, h3⟩ := h
    simp only [List.map_cons, List.all_cons, Bool.and_eq_true] at hF
    exact ⟨v, r, rfl, ⟨cs, flat_rep hF.1 h1, h2⟩, AReps.flat_mv hF.2 h3⟩

theorem handles_data : ∀ (ks : List Kd) (vs : List Value), handles (ks.map AK.dat) vs = []
  | [], vs => by cases vs <;> rfl
  | _ :: _, [] => rfl
  | _ :: ks, _ :: vs => handles_data ks vs

/-- A function whose run is known: it reads data and gives flat data. -/
theorem lib_ok {P : Program} {gl : Gl} {f : Nat} {fn : Func} (hf : P.funcs[f]? = some fn) (hp : plainFn fn = true) {ks rs : List Kd} {pre : ATup (ks.map AK.dat) → Prop} {post : ATup (ks.map AK.dat) → ATup (rs.map AK.dat) → Prop} (hr : (rs.map AK.dat).all AK.flat = true)
    (hc : ∀ (w : World) (F : Nat → Prop) (x : ATup (ks.map AK.dat)) (vs : List Value), AReps w F (ks.map AK.dat) x vs → GlOk gl w F → pre x →
      Calls P f vs.toArray w fun e w' => Kept (fun _ => False) w w' ∧ ∃ us y, e = .returned (resOf us) ∧ post x y ∧ AReps w (fun _ => False) (rs.map AK.dat) y us) :
    ({ args := ks.map AK.dat, res := rs.map AK.dat, pre := pre, post := post } : Con).ok P gl f := by
  obtain ⟨hb, hn⟩ := plain_body hp
  have h : ({ args := ks.map AK.dat, res := rs.map AK.dat, pre := pre, post := post } : Con).holds P gl f := by
    intro w Fb x vs _ hgl hA _ hpre
    refine (hc w _ x vs hA hgl hpre).mono fun e w' ⟨hk, us, y, he, hy, hR⟩ => .inl ⟨us, y, he, hy, ?_, ?_, ?_, ?_⟩
    · exact ⟨hk.os, hk.tape, hk.output, hk.size, fun b hb _ => hk.block b hb id⟩
    · exact AReps.flat_mv hr hR
    · intro i j v u b hi
      have : handles (rs.map AK.dat) us = [] := handles_data rs us
      rw [show handles _ us = [] from this] at hi
      simp at hi
    · rintro b ⟨v, hv, _⟩
      rw [show handles _ us = [] from handles_data rs us] at hv
      cases hv
  exact ⟨h, callOk_con h (fn_enter hf hn hb)⟩

theorem gl_cons {g g0 : Nat} {x v : GV} {l : Gl} (h : List.lookup g ((g0, x) :: l) = some v) : (g = g0 ∧ v = x) ∨ List.lookup g l = some v := by
  by_cases e : g = g0
  · subst e
    simp [List.lookup] at h
    exact .inl ⟨rfl, h.symm⟩
  · have : (g == g0) = false := by simpa using e
    simp only [List.lookup, this] at h
    exact .inr h
theorem gl_one {g g0 : Nat} {x v : GV} (h : List.lookup g [(g0, x)] = some v) : g = g0 ∧ v = x := by
  by_cases e : g = g0
  · subst e
    simp [List.lookup] at h
    exact ⟨rfl, h.symm⟩
  · have : (g == g0) = false := by simpa using e
    simp [List.lookup, this] at h

def u8s (l : List Int) : List UInt8 := l.map fun c => c.toNat.toUInt8
theorem u8s_bs (s : ByteArray) : u8s (bs s) = s.data.toList := by
  unfold u8s bs
  rw [List.map_map]
  conv => rhs; rw [← List.map_id s.data.toList]
  refine List.map_congr_left fun b _ => ?_
  simp
theorem bs_u8s (l : List UInt8) : bs ⟨l.toArray⟩ = l.map fun b => (b.toNat : Int) := rfl
theorem kept_drewN (w : World) (n : Nat) : Kept (fun _ => False) w (w.drewN n) := ⟨rfl, rfl, rfl, Nat.le_refl _, fun _ _ _ => rfl⟩
theorem below_kept {w w' : World} (h : Below w.heap.size w w') : Kept (fun _ => False) w w' := ⟨h.os, h.tape, h.output, h.size, fun b hb _ => h.block b hb⟩
theorem kept_grow (w : World) (n : Nat) (os : Array Obj) : Kept (fun _ => False) w (Sort.grow (w.drewN n) os) :=
  ⟨rfl, rfl, rfl, by simp [Sort.grow, World.drewN], fun b hb _ => by
    show (w.heap ++ os)[b]? = w.heap[b]?
    rw [Array.getElem?_append_left hb]⟩
/-- A table that a contract of the library asks for. -/
theorem tabIs_raw {P : Program} {w : World} {F : Nat → Prop} {name : String} {k : IntKind} {zs : List Int} {g : Nat} (hg : P.globalNamed name = some g) (h : GV.ok w F g (.raw (zs.map fun z => Value.int k z))) : Lib.TabIs P w name k zs := by
  obtain ⟨t, fr, h1⟩ := h
  unfold Lib.TabIs World.var?
  rw [hg]
  simp only [Option.bind_some, h1]
theorem gl_raw {P : Program} {w : World} {name : String} {k : IntKind} {zs : List Int} {g : Nat} {t e : TypeId} {n : Nat} {d : DataW Unit}
    (hg : P.globalNamed name = some g) (hty : (P.globals[g]?).map (·.type) = some t) (ht : P.underlying t = some (.array n e)) (he : P.underlying e = some (.int k)) (hce : P.cellsOf e = 1) (hct : P.cellsOf t = n)
    (hne : 0 < zs.length) (hd : d = Lib.tabData k zs) (h : Lib.VarReads P w name d) : g < w.heap.size ∧ ¬ False ∧ GV.ok w (fun _ => False) g (.raw (zs.map fun z => Value.int k z)) := by
  subst hd
  obtain ⟨g', t', cs, fuel, p, hg', ht', hvar, hd⟩ := h
  obtain rfl := Option.some.inj (hg.symm.trans hg')
  obtain rfl := Option.some.inj (hty.symm.trans ht')
  have hc := Lib.cells_of_tab ht he hce hct hd
  unfold World.var? at hvar
  rw [hg] at hvar
  simp only [Option.bind_some] at hvar
  split at hvar
  · rename_i cs' t fr h1
    have e1 := Option.some.inj hvar
    subst e1
    refine ⟨(Array.getElem?_eq_some_iff.1 h1).1, id, t, fr, ?_⟩
    rw [h1, ← hc]
  · cases hvar
/-- A variable that holds some interface value that is not nil. -/
theorem gl_ifc {P : Program} {w : World} {name nm : String} {g : Nat} {t : TypeId} {ms : Array (String × TypeId)} {d : DataW Unit}
    (hg : P.globalNamed name = some g) (hty : (P.globals[g]?).map (·.type) = some t) (ht : P.underlying t = some (.interface ms)) (h : Lib.VarReads P w name (.iface nm d)) : g < w.heap.size ∧ ¬ False ∧ GV.ok w (fun _ => False) g .ifc := by
  obtain ⟨g', t', cs, fuel, p, hg', ht', hvar, hd⟩ := h
  obtain rfl := Option.some.inj (hg.symm.trans hg')
  obtain rfl := Option.some.inj (hty.symm.trans ht')
  obtain ⟨_, u, v, hc, _⟩ := iface_of_trod ht hd
  unfold World.var? at hvar
  rw [hg] at hvar
  simp only [Option.bind_some] at hvar
  split at hvar
  · rename_i cs' t fr h1
    have e1 := Option.some.inj hvar
    subst e1
    refine ⟨(Array.getElem?_eq_some_iff.1 h1).1, id, u, v, t, fr, ?_⟩
    rw [h1]
    congr 2
    exact Array.ext' hc
  · cases hvar
def ifcB (P : Program) (t : TypeId) : Bool := match P.underlying t with
  | some (.interface _) => true
  | _ => false
theorem ifcB_eq {P : Program} {t : TypeId} (h : ifcB P t = true) : ∃ ms : Array (String × TypeId), P.underlying t = some (.interface ms) := by
  unfold ifcB at h
  split at h
  · rename_i ms e; exact ⟨ms, e⟩
  · cases h
/-- Texts in a row, as the library holds them. -/
theorem texts_of {w : World} {F : Nat → Prop} {ad : Addr} : ∀ {l : List (List Int)}, Els w (Rep w F .str) 1 ad l → (l ≠ [] → ad.spot = none) ∧ ∃ xs : List ByteArray, xs.map bs = l ∧ ∀ (j : Nat) (x : ByteArray), xs[j]? = some x → w.cell? (ad.add j) = some (.string x) := by
  intro l h
  have one : ∀ (i : Nat) (x : List Int), l[i]? = some x → bs ⟨(u8s x).toArray⟩ = x ∧ w.cell? (ad.add i) = some (.string ⟨(u8s x).toArray⟩) := fun i x hx => by
    obtain ⟨ecs, h1, h2⟩ := h i x hx
    obtain ⟨s, rfl, rfl, _⟩ := h1
    have e : (⟨(u8s (bs s)).toArray⟩ : ByteArray) = s := by rw [u8s_bs]
    rw [e]
    have := h2 0 _ rfl
    rw [Nat.mul_one, Nat.add_zero] at this
    exact ⟨rfl, this⟩
  refine ⟨fun hne => ?_, l.map fun x => ⟨(u8s x).toArray⟩, ?_, fun j x hx => ?_⟩
  · cases l with
    | nil => exact absurd rfl hne
    | cons x r =>
      have := (one 0 x rfl).2
      cases hs : ad.spot with
      | none => rfl
      | some p =>
        exfalso
        unfold World.cell? at this
        split at this
        · have e : (ad.add 0).spot = ad.spot := by unfold Addr.add; split <;> simp_all
          rw [e, hs] at this
          simp at this
        · cases this
  · rw [List.map_map]
    conv => rhs; rw [← List.map_id l]
    refine List.map_congr_left fun x hx => ?_
    obtain ⟨i, hi⟩ := List.mem_iff_getElem?.1 hx
    exact (one i x hi).1
  · rw [List.getElem?_map, Option.map_eq_some_iff] at hx
    obtain ⟨y, hy, rfl⟩ := hx
    exact (one j y hy).2
end Go.Vc
end
