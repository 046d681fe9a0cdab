/- Contracts: of a body, and at a call. -/
import Derived.Test.YtkdffofjnjamlaaZVcJoin
namespace Go.Vc
open Go.RowKit

theorem resVal_of {C : Cx} {res : List AK} {s : SV} {l : List SV} {v : Value} (h : resSVs res s = some l) (hs : s.rel C v) (hl : l.length = res.length) : ∃ us, v = resOf us ∧ SV.rels C l us := by
  unfold resSVs at h
  split at h
  · cases h
    exact ⟨[v], rfl, v, [], rfl, hs, rfl⟩
  · rename_i hne
    cases h
    obtain ⟨us, rfl, hu⟩ := hs
    refine ⟨us, ?_, hu⟩
    unfold resOf
    have h1 : us.length = l.length := rels_length hu
    have : us.toArray.size ≠ 1 := by
      intro e
      simp at e
      rw [h1, hl] at e
      match res, e with
      | [x], _ => exact hne x rfl
    rw [dif_neg this]
  · cases h

theorem resT_len {st : St} : ∀ {l : List AK} {r : List SV} {y : ATup l}, resT st l r = some y → r.length = l.length
  | [], [], _, _ => rfl
  | [], _ :: _, _, h => by simp [resT] at h
  | .dat _ :: _, [], _, h => by simp [resT] at h
  | .own _ _ :: _, [], _, h => by simp [resT] at h
  | .dat k :: l, s :: r, y, h => by
    simp only [resT] at h
    split at h
    · rename_i e; simp [resT_len e]
    · cases h
  | .own e k :: l, s :: r, y, h => by
    cases s <;> simp only [resT] at h <;> try (cases h; done)
    case own n =>
      split at h
      · rename_i e; simp [resT_len e]
      · cases h
    case cst c =>
      split at h
      · split at h
        · rename_i e; simp [resT_len e]
        · cases h
      · cases h

theorem AReps.len {w : World} {F : Nat → Prop} : ∀ {l : List AK} {x : ATup l} {vs : List Value}, AReps w F l x vs → vs.length = l.length
  | [], _, vs, h => by
    obtain rfl : vs = [] := h
    rfl
  | a :: l, x, vs, h => by
    obtain ⟨v, r, rfl, _, h2⟩ := h
    simp [AReps.len h2]

/-- A contract, from the walk of the body. -/
theorem con_body {E : Env} {H : Hints} (hE : E.Ok) {f : Nat} {fn : Func} {body : Code} (hf : E.P.funcs[f]? = some fn) (hn : (fn.name == "runtime.NumGoroutine") = false) (hb : fn.body = some body)
    {c : Con} (hc : c.vc E H fn.ntmps fn.results.toList body) : c.holds E.P f := by
  intro w Fb x vs hFb hA hsep hpre
  have hvc := hc x hA.wf hpre
  let B : Base := ⟨w, ownBlk c.args vs, Fb⟩
  let ρ : Nat → Value := fun n => (handles c.args vs).getD n undef
  let st : St := { n := 0, sl := [], hp := canH c.args x }
  have hρ : ∀ (i : Nat) (v : Value), (handles c.args vs)[i]? = some v → ρ i = v := fun i v hv => by simp [ρ, List.getD_eq_getElem?_getD, hv]
  have hlen := canH_len hA
  have getL : ∀ n, live st.hp n → ∃ v, (handles c.args vs)[n]? = some v ∧ ρ n = v := fun n hl => by
    have := live_lt hl
    have h2 : n < (handles c.args vs).length := by rw [hlen]; exact this
    exact ⟨_, List.getElem?_eq_getElem h2, hρ n _ (List.getElem?_eq_getElem h2)⟩
  have hForb : ∀ b, b < w.heap.size → Forb B ρ st.hp b → Fb b ∨ ownBlk c.args vs b := fun b _ hb => by
    rcases hb with hb | ⟨n, hl, hb⟩
    · exact .inl hb
    · obtain ⟨v, hv, e⟩ := getL n hl
      exact .inr ⟨v, List.mem_iff_getElem?.2 ⟨n, hv⟩, by rw [← e]; exact hb⟩
  have hR : StRel B ρ st { tmps := #[], defers := [] } [] w := by
    refine ⟨⟨Kept.refl _ _, fun n o ho => ?_, fun n m b hn hm h1 h2 => ?_, fun n b hn h1 => ?_, fun b hb => ⟨(hFb b hb).1, (hFb b hb).2⟩⟩, ⟨rfl, fun i s hs => by cases hs⟩, (fun t b hb => by cases hb), rfl, rfl⟩
    · obtain ⟨v, hv, hr⟩ := canH_rel hA (.inr hForb) n o ho
      rw [hρ n v hv]
      exact hr _ rfl rfl
    · obtain ⟨v, hv, e1⟩ := getL n hn
      obtain ⟨u, hu, e2⟩ := getL m hm
      rw [e1] at h1
      rw [e2] at h2
      exact hsep n m v u b hv hu h1 h2
    · obtain ⟨v, hv, e1⟩ := getL n hn
      rw [e1] at h1
      have : ownBlk c.args vs b := ⟨v, List.mem_iff_getElem?.2 ⟨n, hv⟩, h1⟩
      exact ⟨.inr this, fun hc => (hFb b hc).2 this⟩
  have hargs : SV.rels (cx B ρ st.hp w) (canA c.args x 0) vs := can_rel (C := cx B ρ st.hp w) hA (.inr hForb) (by simp [st]) (fun i v hv => by rw [Nat.zero_add]; exact hρ i v hv)
  refine ((callOk_fn (H := H) hE hf hn hb).2 _ _ _ _ B ρ _ [] w vs hvc hR hargs).mono fun en w' hw => ?_
  cases en with
  | panicked ch => obtain ⟨v, s, st', ρ', _, h1, _⟩ := hw; exact h1.elim
  | outgrown => exact hw.elim
  | returned v =>
    obtain ⟨s, st', ρ', hk, hR', hs⟩ := hw
    unfold St.resK at hk
    split at hk
    · rename_i l hl
      split at hk
      · rename_i hap
        split at hk
        · rename_i y hy
          obtain ⟨us, rfl, hus⟩ := resVal_of hl hs (resT_len hy)
          simp only [apartB, Bool.and_eq_true, List.all_eq_true, Bool.not_eq_true'] at hap
          refine ⟨us, y, rfl, hk, hR'.h.kept, ?_, owns_sep hR' hy hus hap.1, fun b hb => ?_⟩
          · refine resT_rel hR' (srcs := ownsR c.res l) (fun b hb => ?_) hy hus (fun m hm => by simpa using hap.2 m hm)
            rcases hb with hb | hb
            · exact .inl hb
            · exact .inr (owns_blk hR' hy hus hb)
          · obtain ⟨m, _, h1, h2⟩ := owns_blk hR' hy hus hb
            exact (hR'.h.own m b h1 h2).1
        · exact hk.elim
      · exact hk.elim
    · exact hk.elim

/-! ### At a call -/
def killAll (hp : List (Option Ob)) : List Nat → List (Option Ob)
  | [] => hp
  | n :: l => killAll (hp.set n none) l

def frzArgs (st : St) (n : Nat) (l : List SV) : List SV :=
  match st.row n with
  | some ⟨k, xs⟩ => SV.frzs n k xs l
  | none => l

def frzAll : List Nat → St → List SV → St × List SV
  | [], st, l => (st, l)
  | n :: r, st, l => frzAll r (st.frz n) (frzArgs st n l)

def conSem (c : Con) : CallSem := fun args st kv _ =>
  let p := if c.res.all AK.flat then (st, args) else frzAll (takenR c.args args) st args
  if apartB c.args p.2 && (c.res.all AK.flat || (takenR c.args p.2).isEmpty) then
    match resT p.1 c.args p.2 with
    | some x => c.pre x ∧ ∀ y, ATup.wf c.res y → c.post x y → kv (resVal (canA c.res y p.1.hp.length)) { p.1 with hp := killAll p.1.hp (ownsR c.args p.2) ++ canH c.res y }
    | none => False
  else False

theorem killAll_len : ∀ (l : List Nat) (hp : List (Option Ob)), (killAll hp l).length = hp.length
  | [], _ => rfl
  | n :: l, hp => by simp [killAll, killAll_len l]

theorem killAll_get : ∀ (l : List Nat) (hp : List (Option Ob)) (n : Nat) (o : Ob), (killAll hp l)[n]? = some (some o) → hp[n]? = some (some o) ∧ n ∉ l
  | [], _, _, _, h => ⟨h, by simp⟩
  | m :: l, hp, n, o, h => by
    obtain ⟨h1, h2⟩ := killAll_get l _ n o h
    rw [List.getElem?_set] at h1
    split at h1
    · split at h1 <;> cases h1
    · rename_i hne
      exact ⟨h1, by simp [h2, Ne.symm hne]⟩

section
variable {B : Base} {ρ : Nat → Value} {st : St} {a : Act} {fs : List (Array Value)} {w : World}

theorem StRel.args_frz (h : StRel B ρ st a fs w) {l : List SV} {vs : List Value} (hr : SV.rels (cx B ρ st.hp w) l vs) (n : Nat) : StRel B ρ (st.frz n) a fs w ∧ SV.rels (cx B ρ (st.frz n).hp w) (frzArgs st n l) vs := by
  refine ⟨h.frz n, ?_⟩
  cases e : st.row n with
  | some p =>
    obtain ⟨k, xs⟩ := p
    have e1 : (st.frz n).hp = (st.hp.set n none).map (Option.map (Ob.frz n k xs)) := by unfold St.frz; rw [e]
    have e2 : frzArgs st n l = SV.frzs n k xs l := by unfold frzArgs; rw [e]
    rw [e1, e2]
    exact SV.rels.frz (h.thaw e) hr
  | none =>
    have e1 : st.frz n = st := by unfold St.frz; rw [e]
    have e2 : frzArgs st n l = l := by unfold frzArgs; rw [e]
    rw [e1, e2]
    exact hr

theorem frzAll_rel : ∀ (ns : List Nat) {st : St} {l : List SV} {vs : List Value}, StRel B ρ st a fs w → SV.rels (cx B ρ st.hp w) l vs → StRel B ρ (frzAll ns st l).1 a fs w ∧ SV.rels (cx B ρ (frzAll ns st l).1.hp w) (frzAll ns st l).2 vs
  | [], _, _, _, h, hr => ⟨h, hr⟩
  | n :: ns, st, l, vs, h, hr => by
    obtain ⟨h1, h2⟩ := h.args_frz hr n
    exact frzAll_rel ns h1 h2

theorem callOk_con {P : Program} {f : Nat} {c : Con} (hc : c.holds P f) (he : ∀ args w, (callFunc f args).run P w = .ok (.enter f args) w) : CallOk P f (conSem c) := by
  refine ⟨he, fun args0 st0 kv kp B ρ a fs w vs hk h0 hr0 => ?_⟩
  unfold conSem at hk
  have hp : ∃ st args, (if c.res.all AK.flat then (st0, args0) else frzAll (takenR c.args args0) st0 args0) = (st, args) ∧ StRel B ρ st a fs w ∧ SV.rels (cx B ρ st.hp w) args vs := by
    split
    · exact ⟨_, _, rfl, h0, hr0⟩
    · exact ⟨_, _, rfl, frzAll_rel _ h0 hr0⟩
  obtain ⟨st, args, e, h, hr⟩ := hp
  simp only [e] at hk
  split at hk
  · rename_i hap
    split at hk
    · rename_i x hx
      obtain ⟨hpre, hk⟩ := hk
      simp only [Bool.and_eq_true, Bool.or_eq_true, apartB, List.all_eq_true, Bool.not_eq_true', List.isEmpty_iff] at hap
      obtain ⟨⟨hnd, hdisj⟩, hflat⟩ := hap
      have hflat' : c.res.all AK.flat = true ∨ takenR c.args args = [] := hflat.imp (fun h => by simpa using h) id
      -- what the callee does not read
      let Out : Nat → Prop := fun b => ∃ m, (m ∈ takenR c.args args ∨ m ∈ ownsR c.args args) ∧ live st.hp m ∧ blk (ρ m) = some b
      let Fb : Nat → Prop := fun b => Forb B ρ st.hp b ∧ ¬ Out b
      have ob : ∀ b, ownBlk c.args vs b → ∃ m, m ∈ ownsR c.args args ∧ live st.hp m ∧ blk (ρ m) = some b := fun b hb => owns_blk h hx hr hb
      have hA : AReps w (fun b => Fb b ∨ ownBlk c.args vs b) c.args x vs := by
        refine resT_rel h (srcs := (List.range st.hp.length).filter fun m => !(takenR c.args args).contains m) (fun b hb => ?_) hx hr (fun m hm => by simp [hm])
        rcases hb with ⟨hb, hno⟩ | hb
        · rcases hb with hb | ⟨m, hl, hm⟩
          · exact .inl hb
          · refine .inr ⟨m, ?_, hl, hm⟩
            simp only [List.mem_filter, List.mem_range, Bool.not_eq_true', List.contains_eq_mem, decide_eq_false_iff_not]
            exact ⟨live_lt hl, fun hc => hno ⟨m, .inl hc, hl, hm⟩⟩
        · obtain ⟨m, hm, hl, hmb⟩ := ob b hb
          refine .inr ⟨m, ?_, hl, hmb⟩
          simp only [List.mem_filter, List.mem_range, Bool.not_eq_true', List.contains_eq_mem, decide_eq_false_iff_not]
          exact ⟨live_lt hl, fun hc => by have := hdisj m hc; simp at this; exact this hm⟩
      refine (hc w Fb x vs (fun b hb => ⟨h.h.forb_lt hb.1, fun hc => ?_⟩) hA (owns_sep h hx hr hnd) hpre).mono fun en w' hw => ?_
      · obtain ⟨m, hm, hl, hmb⟩ := ob b hc
        exact hb.2 ⟨m, .inr hm, hl, hmb⟩
      obtain ⟨us, y, rfl, hpost, hkept, hR, hsep, hnew⟩ := hw
      let ρ2 : Nat → Value := fun n => if n < st.hp.length then ρ n else (handles c.res us).getD (n - st.hp.length) undef
      let hp2 := killAll st.hp (ownsR c.args args) ++ canH c.res y
      have hlen := canH_len hR
      have live2 : ∀ n o, hp2[n]? = some (some o) → (n < st.hp.length ∧ st.hp[n]? = some (some o) ∧ n ∉ ownsR c.args args ∧ ρ2 n = ρ n) ∨
          (st.hp.length ≤ n ∧ (canH c.res y)[n - st.hp.length]? = some (some o) ∧ ∃ v, (handles c.res us)[n - st.hp.length]? = some v ∧ ρ2 n = v) := by
        intro n o ho
        by_cases hn : n < st.hp.length
        · left
          rw [show hp2[n]? = (killAll st.hp (ownsR c.args args))[n]? from List.getElem?_append_left (by rw [killAll_len]; exact hn)] at ho
          obtain ⟨h1, h2⟩ := killAll_get _ _ _ _ ho
          exact ⟨hn, h1, h2, by simp [ρ2, hn]⟩
        · right
          rw [show hp2[n]? = (canH c.res y)[n - st.hp.length]? by
            show (killAll st.hp (ownsR c.args args) ++ canH c.res y)[n]? = _
            rw [List.getElem?_append_right (by rw [killAll_len]; omega), killAll_len]] at ho
          have hlt : n - st.hp.length < (handles c.res us).length := by rw [hlen]; exact (List.getElem?_eq_some_iff.1 ho).1
          exact ⟨by omega, ho, _, List.getElem?_eq_getElem hlt, by simp [ρ2, hn, List.getD_eq_getElem?_getD, List.getElem?_eq_getElem hlt]⟩
      have newBlk : ∀ (i : Nat) v b, (handles c.res us)[i]? = some v → blk v = some b → w.heap.size ≤ b ∨ ∃ m, m ∈ ownsR c.args args ∧ live st.hp m ∧ blk (ρ m) = some b := fun i v b hi hb => by
        rcases hnew b ⟨v, List.mem_iff_getElem?.2 ⟨i, hi⟩, hb⟩ with h1 | h1
        · exact .inl h1
        · exact .inr (ob b h1)
      have le : (cx B ρ st.hp w).le (cx B ρ2 hp2 w') := by
        refine ⟨hkept.size, fun b hb hF => hkept.block b hb (fun hc => ?_), fun b hb hF => ?_, by simp [hp2, killAll_len], fun n hn => by simp [ρ2, hn]⟩
        · obtain ⟨m, _, hl, hmb⟩ := ob b hc
          exact hF (.inr ⟨m, hl, hmb⟩)
        · rcases hF with hF | ⟨n, ⟨o, ho⟩, hnb⟩
          · exact .inl hF
          · rcases live2 n o ho with ⟨_, h1, _, h2⟩ | ⟨_, _, v, h1, h2⟩
            · exact .inr ⟨n, ⟨o, h1⟩, by rw [← h2]; exact hnb⟩
            · rw [h2] at hnb
              rcases newBlk _ v b h1 hnb with h3 | ⟨m, _, hl, hmb⟩
              · simp only at hb; omega
              · exact .inr ⟨m, hl, hmb⟩
      -- what the results read
      have up : c.res.all AK.flat = true ∨ ∀ b, b < w'.heap.size → Forb B ρ2 hp2 b → Fb b ∨ ownBlk c.res us b := by
        refine hflat'.imp id fun htk b _ hF => ?_
        have outs : Out b → ∃ m, m ∈ ownsR c.args args ∧ live st.hp m ∧ blk (ρ m) = some b := by
          rintro ⟨m, hm, h1, h2⟩
          rw [htk] at hm
          exact ⟨m, by simpa using hm, h1, h2⟩
        rcases hF with hF | ⟨n, ⟨o, ho⟩, hnb⟩
        · refine .inl ⟨.inl hF, fun hc => ?_⟩
          obtain ⟨m, _, hl, hmb⟩ := outs hc
          exact (h.h.own m b hl hmb).2 hF
        · rcases live2 n o ho with ⟨_, h1, h3, h2⟩ | ⟨_, _, v, h1, h2⟩
          · rw [h2] at hnb
            refine .inl ⟨.inr ⟨n, ⟨o, h1⟩, hnb⟩, fun hc => ?_⟩
            obtain ⟨m, hm, hl, hmb⟩ := outs hc
            have := h.h.sep m n b hl ⟨o, h1⟩ hmb hnb
            subst this
            exact h3 hm
          · rw [h2] at hnb
            exact .inr ⟨v, List.mem_iff_getElem?.2 ⟨_, h1⟩, hnb⟩
      have hR2 : StRel B ρ2 { st with hp := hp2 } a fs w' := by
        refine ⟨⟨h.h.kept.trans (S' := ownBlk c.args vs) hkept (fun b hb hc => ?_), fun n o ho => ?_, ?_, fun n b hn hnb => ?_, h.h.fb⟩, h.s.le le, h.kn, h.k.le le, h.d⟩
        · obtain ⟨m, _, hl, hmb⟩ := ob b hc
          exact (h.h.own m b hl hmb).1.resolve_left (by omega)
        · rcases live2 n o ho with ⟨hn, h1, h3, h2⟩ | ⟨hn, h1, v, h3, h2⟩
          · rw [h2]
            refine (h.h.obj n o h1).le le (fun b hb => hkept.block b (h.h.live_block ⟨o, h1⟩ hb) (fun hc => ?_))
            obtain ⟨m, hm, hl, hmb⟩ := ob b hc
            have := h.h.sep m n b hl ⟨o, h1⟩ hmb hb
            subst this
            exact h3 hm
          · obtain ⟨u, hu, hr⟩ := canH_rel hR up _ o h1
            rw [h3] at hu
            cases hu
            rw [h2]
            exact hr _ rfl rfl
        · have key : ∀ n m b o o', hp2[n]? = some (some o) → hp2[m]? = some (some o') → blk (ρ2 n) = some b → blk (ρ2 m) = some b → n < st.hp.length → st.hp.length ≤ m → False := by
            intro n m b o o' hn hm hnb hmb h1 h2
            rcases live2 n o hn with ⟨_, h3, h4, h5⟩ | ⟨h3, _⟩
            · rcases live2 m o' hm with ⟨h6, _⟩ | ⟨_, _, v, h7, h8⟩
              · omega
              · rw [h5] at hnb
                rw [h8] at hmb
                rcases newBlk _ v b h7 hmb with h9 | ⟨q, hq, hl, hqb⟩
                · have := h.h.live_block ⟨o, h3⟩ hnb; omega
                · have := h.h.sep q n b hl ⟨o, h3⟩ hqb hnb
                  subst this
                  exact h4 hq
            · omega
          rintro n m b ⟨o, hn⟩ ⟨o', hm⟩ hnb hmb
          by_cases h1 : n < st.hp.length
          · by_cases h2 : m < st.hp.length
            · rcases live2 n o hn with ⟨_, h3, _, h4⟩ | ⟨h3, _⟩
              · rcases live2 m o' hm with ⟨_, h5, _, h6⟩ | ⟨h5, _⟩
                · rw [h4] at hnb
                  rw [h6] at hmb
                  exact h.h.sep n m b ⟨o, h3⟩ ⟨o', h5⟩ hnb hmb
                · omega
              · omega
            · exact (key n m b o o' hn hm hnb hmb h1 (by omega)).elim
          · by_cases h2 : m < st.hp.length
            · exact (key m n b o' o hm hn hmb hnb h2 (by omega)).elim
            · rcases live2 n o hn with ⟨h3, _⟩ | ⟨_, _, v, h3, h4⟩
              · omega
              · rcases live2 m o' hm with ⟨h5, _⟩ | ⟨_, _, u, h5, h6⟩
                · omega
                · rw [h4] at hnb
                  rw [h6] at hmb
                  have := hsep _ _ v u b h3 h5 hnb hmb
                  omega
        · obtain ⟨o, ho⟩ := hn
          rcases live2 n o ho with ⟨_, h3, _, h4⟩ | ⟨_, _, v, h3, h4⟩
          · rw [h4] at hnb
            exact h.h.own n b ⟨o, h3⟩ hnb
          · rw [h4] at hnb
            rcases newBlk _ v b h3 hnb with h5 | ⟨m, _, hl, hmb⟩
            · have := h.h.kept.size
              exact ⟨.inl (by omega), fun hc => by have := (h.h.fb b hc).1; omega⟩
            · exact h.h.own m b hl hmb
      refine ⟨_, _, ρ2, hk y hR.wf hpost, hR2, ?_⟩
      refine resVal_rel (can_rel (C := cx B ρ2 hp2 w') hR up ?_ ?_)
      · show st.hp.length + (canH c.res y).length ≤ (killAll st.hp (ownsR c.args args) ++ canH c.res y).length
        simp [killAll_len]
      · intro i v hv
        show ρ2 (st.hp.length + i) = v
        show (if st.hp.length + i < st.hp.length then ρ (st.hp.length + i) else (handles c.res us).getD (st.hp.length + i - st.hp.length) undef) = v
        rw [if_neg (by omega), Nat.add_sub_cancel_left, List.getD_eq_getElem?_getD, hv]
        rfl
    · exact hk.elim
  · exact hk.elim
end

/-! ### An environment, from what is known of the functions -/
def fnsOf : List (Nat × CallSem) → Nat → Option CallSem
  | [], _ => none
  | (i, c) :: l, n => if n = i then some c else fnsOf l n

def AllOk (P : Program) : List (Nat × CallSem) → Prop
  | [] => True
  | (i, c) :: l => CallOk P i c ∧ AllOk P l

theorem fnsOf_ok {P : Program} : ∀ {l : List (Nat × CallSem)}, AllOk P l → ∀ f c, fnsOf l f = some c → CallOk P f c
  | [], _, f, c, h => by cases h
  | (i, c') :: l, ha, f, c, h => by
    simp only [fnsOf] at h
    split at h
    · rename_i e
      cases h
      rw [e]
      exact ha.1
    · exact fnsOf_ok ha.2 f c h

def mkEnv (T : Ty) (l : List (Nat × CallSem)) (keep : List Nat) : Env := { toTy := T, fns := fnsOf l, keep := keep }

theorem mkEnv_ok {T : Ty} {l : List (Nat × CallSem)} (keep : List Nat) (hT : T.Ok) (hm : T.P.follows .mixedOrders = true) (h : AllOk T.P l) : (mkEnv T l keep).Ok := ⟨hT, fnsOf_ok h, hm⟩

def bodyOf (f : Func) : Code := match f.body with | some c => c | none => .skip

structure Con.ok (P : Program) (f : Nat) (c : Con) : Prop where
  holds : c.holds P f
  call : CallOk P f (conSem c)

/-- Is it a function with a body, that is entered like any other? -/
def plainFn (fn : Func) : Bool := fn.body.isSome && !(fn.name == "runtime.NumGoroutine")

theorem con_ok {E : Env} {H : Hints} (hE : E.Ok) {f : Nat} {fn : Func} (hf : E.P.funcs[f]? = some fn) (hp : plainFn fn = true) {c : Con} (hc : c.vc E H fn.ntmps fn.results.toList (bodyOf fn)) : c.ok E.P f := by
  simp only [plainFn, Bool.and_eq_true, Bool.not_eq_true'] at hp
  obtain ⟨body, hb⟩ := Option.isSome_iff_exists.1 hp.1
  have e : bodyOf fn = body := by unfold bodyOf; rw [hb]
  rw [e] at hc
  have h := con_body hE hf hp.2 hb hc
  exact ⟨h, callOk_con h (callOk_fn (H := H) hE hf hp.2 hb).1⟩

/-- A function that is walked where it is called, its ways led together. -/
theorem inlJ_ok {E : Env} (H : Hints) (abs : Bool) (res : List AK) (hE : E.Ok) {f : Nat} {fn : Func} (hf : E.P.funcs[f]? = some fn) (hp : plainFn fn = true) : CallOk E.P f (vcFnJ E H fn.ntmps fn.results.toList (bodyOf fn) abs res) := by
  simp only [plainFn, Bool.and_eq_true, Bool.not_eq_true'] at hp
  obtain ⟨body, hb⟩ := Option.isSome_iff_exists.1 hp.1
  have e : bodyOf fn = body := by unfold bodyOf; rw [hb]
  rw [e]
  exact callOk_fnJ hE abs res hf hp.2 hb

/-- A function that is walked where it is called. -/
theorem inl_ok {E : Env} (H : Hints) (hE : E.Ok) {f : Nat} {fn : Func} (hf : E.P.funcs[f]? = some fn) (hp : plainFn fn = true) : CallOk E.P f (vcFn E H fn.ntmps fn.results.toList (bodyOf fn)) := by
  simp only [plainFn, Bool.and_eq_true, Bool.not_eq_true'] at hp
  obtain ⟨body, hb⟩ := Option.isSome_iff_exists.1 hp.1
  have e : bodyOf fn = body := by unfold bodyOf; rw [hb]
  rw [e]
  exact callOk_fn hE hf hp.2 hb
end Go.Vc
