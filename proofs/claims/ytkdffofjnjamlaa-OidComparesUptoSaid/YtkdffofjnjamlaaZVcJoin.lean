/- A function that is walked where it is called, its ways led together. -/
import Derived.Test.YtkdffofjnjamlaaZVcCon
namespace Go.Vc
open Go.RowKit

def joinPl : List AK → Nat → Nat → List PE × List OE
  | [], _, _ => ([], [])
  | .dat k :: l, i, N => (.var i k :: (joinPl l (i + 1) N).1, (joinPl l (i + 1) N).2)
  | .own e k :: l, i, N => (.own i N :: (joinPl l (i + 1) (N + 1)).1, .row e k :: (joinPl l (i + 1) (N + 1)).2)

def joinOb (abs : Bool) (res : List AK) (st : St) : List OE :=
  planOb abs (reach st 3 (slNames st.sl ++ stkNames st.stk)) (if abs then reach st 3 (slNames st.sl ++ stkNames st.stk) else []) 0 st.hp ++ (joinPl res 0 st.hp.length).2

def vcFnJ (E : Env) (H : Hints) (n : Nat) (rs : List ResultVar) (body : Code) (abs : Bool) (res : List AK) : CallSem := fun args st kv kp =>
  if args.length ≤ n then
    ∃ J : PE.Tup (joinPl res 0 st.hp.length).1 → OE.Tup (joinOb abs res st) → Prop,
      (vcCode E H body (st.push n args) fun e st' => match e with
        | .normal => match resSV E.toTy st' rs with
          | some (o, l) => conj o (({ st' with n := l.length, sl := enumFrom 0 l, kn := [] } : St).fitK (joinPl res 0 st.hp.length).1 (joinOb abs res st) (st.sl :: st.stk) fun u z => l.length = res.length ∧ J u z)
          | none => False
        | .ret => match resSV E.toTy st' rs with
          | some (o, l) => conj o (({ st' with n := l.length, sl := enumFrom 0 l, kn := [] } : St).fitK (joinPl res 0 st.hp.length).1 (joinOb abs res st) (st.sl :: st.stk) fun u z => l.length = res.length ∧ J u z)
          | none => False
        | .pan s => match st.pop st' with
          | some st'' => kp s st''
          | none => False
        | .exit _ => False) ∧
      ∀ u z, PE.wf (joinPl res 0 st.hp.length).1 u → OE.wf (joinOb abs res st) z → J u z → kv (resVal ((PE.mk (joinPl res 0 st.hp.length).1 u).map (·.2))) { st with hp := OE.mk (joinOb abs res st) z }
  else False

theorem join_places : ∀ (l : List AK) (i N : Nat), PE.places (joinPl l i N).1 = List.range' i l.length
  | [], _, _ => rfl
  | .dat _ :: l, i, N => by simp only [joinPl, PE.places, join_places l, List.length_cons, List.range'_succ]
  | .own _ _ :: l, i, N => by simp only [joinPl, PE.places, join_places l, List.length_cons, List.range'_succ]

theorem slots_rels {C : Cx} {vs : List Value} : ∀ (sl : Slots) (k : Nat) (us : List Value), sl.map (·.1) = List.range' k sl.length → us.length = sl.length → (∀ j, us[j]? = vs[k + j]?) →
    (∀ i s, sl.lookup i = some s → s.rel C (vs.getD i undef)) → SV.rels C (sl.map (·.2)) us
  | [], _, us, _, hl, _, _ => List.eq_nil_of_length_eq_zero hl
  | (i, s) :: sl, k, us, hm, hl, hu, hs => by
    cases us with
    | nil => simp at hl
    | cons u us =>
      simp only [List.map_cons, List.length_cons, List.range'_succ, List.cons.injEq] at hm
      obtain ⟨rfl, hm⟩ := hm
      have h0 : some u = vs[i]? := by simpa using hu 0
      have hi := hs i s (by rw [lookup_cons, if_pos rfl])
      rw [List.getD_eq_getElem?_getD, ← h0] at hi
      refine ⟨u, us, rfl, hi, slots_rels sl (i + 1) us hm (by simpa using hl) (fun j => by
        have := hu (j + 1)
        simp only [List.getElem?_cons_succ] at this
        rw [this]; congr 1; omega) (fun j t hj => hs j t ?_)⟩
      rw [lookup_cons, if_neg]
      · exact hj
      · intro e
        subst e
        have hmem := mk_lookup hj
        have : j ∈ sl.map (·.1) := List.mem_map.2 ⟨_, hmem, rfl⟩
        rw [hm] at this
        simp [List.mem_range'] at this
        omega

section
variable {E : Env} {H : Hints} {B : Base} {ρ : Nat → Value} {st : St} {a : Act} {fs : List (Array Value)} {w : World}

theorem results_rel (hE : E.toTy.Ok) {fn : Func} {o : List Prop} {l : List SV} (e1 : resSV E.toTy st fn.results.toList = some (o, l)) (h : StRel B ρ st a fs w) (ho : ∀ p ∈ o, p) :
    ∃ vs : List Value, (results fn a.tmps).run E.P w = .ok (if h : vs.toArray.size = 1 then vs.toArray[0] else .tuple vs.toArray) w ∧ SV.rels (cx B ρ st.hp w) l vs := by
  obtain ⟨vs', h1, h2⟩ := resSV_rel hE e1 h ho
  refine ⟨vs', ?_, h2⟩
  have e : results fn a.tmps = (do let vs ← fn.results.mapM (resF a.tmps); pure (if h : vs.size = 1 then vs[0] else .tuple vs)) := by
    unfold results
    congr 1
  rw [e, Array.mapM_eq_mapM_toList]
  simp only [Sem.run_bind, Sem.run_map, h1, Result.andThen_ok, Sem.run_pure]

theorem callOk_fnJ (hE : E.Ok) {f : Nat} {fn : Func} {body : Code} (abs : Bool) (res : List AK) (hf : E.P.funcs[f]? = some fn) (hn : (fn.name == "runtime.NumGoroutine") = false) (hb : fn.body = some body) :
    CallOk E.P f (vcFnJ E H fn.ntmps fn.results.toList body abs res) := by
  refine ⟨(callOk_fn (H := H) hE hf hn hb).1, fun args st kv kp B ρ a fs w vs hc h hr => ?_⟩
  unfold vcFnJ at hc
  split at hc
  · rename_i hlen
    obtain ⟨J, hc, hkv⟩ := hc
    refine calls_of_wp hf hb (Code.wp_mono (fun e a' w' hq => ?_) (vcCode_sound hE body hc (push_rel h hr hlen)))
    have ret : ∀ {st' : St} {ρ' : Nat → Value}, (match resSV E.toTy st' fn.results.toList with
          | some (o, l) => conj o (({ st' with n := l.length, sl := enumFrom 0 l, kn := [] } : St).fitK (joinPl res 0 st.hp.length).1 (joinOb abs res st) (st.sl :: st.stk) fun u z => l.length = res.length ∧ J u z)
          | none => False) → StRel B ρ' st' a' (a.tmps :: fs) w' → a'.defers = [] ∧ ∃ v, (results fn a'.tmps).run E.P w' = .ok v w' ∧ CallPost B a fs kv kp (.returned v) w' := by
      intro st' ρ' hk hr'
      refine ⟨hr'.d, ?_⟩
      split at hk
      · rename_i o l e1
        obtain ⟨ho, hk⟩ := conj_all hk
        obtain ⟨us, hrun, hus⟩ := results_rel hE.ty e1 hr' ho
        have hul := rels_length hus
        have h2 : StRel B ρ' { st' with n := l.length, sl := enumFrom 0 l, kn := [] } { a' with tmps := us.toArray } (a.tmps :: fs) w' := by
          refine ⟨hr'.h, ⟨by simpa using hul, fun i s hs => ?_⟩, (fun t b hb => by cases hb), hr'.k, hr'.d⟩
          obtain ⟨_, h4⟩ := lookup_enumFrom l 0 i s hs
          obtain ⟨v, hv, hrel⟩ := rels_get hus h4
          simp only [Nat.sub_zero] at hv h4
          have hi := (List.getElem?_eq_some_iff.1 hv).1
          refine ⟨by show i < l.length; omega, ?_⟩
          rw [Array.getD_eq_getD_getElem?]
          simp only [List.getElem?_toArray, hv, Option.getD_some]
          exact hrel
        obtain ⟨ρ2, u, z, ⟨hll, hJ⟩, hu, hz, h3⟩ := fitK_sound h2 hk
        refine ⟨_, hrun, _, _, ρ2, hkv u z hu hz hJ, ?_, ?_⟩
        · obtain ⟨t, r, e, hs1, hs2⟩ := h3.k
          cases e
          exact ⟨h3.h, by rw [← h.s.1]; exact hs1, h.kn, hs2, h.d⟩
        · refine resVal_rel (slots_rels (vs := us) _ 0 us ?_ ?_ (fun j => by simp) (fun i s hs => ?_))
          · rw [mk_places, join_places]
            have := congrArg List.length (mk_places (joinPl res 0 st.hp.length).1 u)
            rw [join_places, List.length_map, List.length_range'] at this
            rw [this]
          · have := congrArg List.length (mk_places (joinPl res 0 st.hp.length).1 u)
            rw [join_places, List.length_map, List.length_range'] at this
            rw [this, hul, hll]
          · have := (h3.s.2 i s hs).2
            rw [Array.getD_eq_getD_getElem?] at this
            rw [List.getD_eq_getElem?_getD]
            simp only [List.getElem?_toArray] at this
            exact this
      · exact hk.elim
    cases e with
    | normal => obtain ⟨st', ρ', h1, h2⟩ := hq; exact ret h1 h2
    | ret => obtain ⟨st', ρ', h1, h2⟩ := hq; exact ret h1 h2
    | panic ch =>
      obtain ⟨v, s, st', ρ', rfl, h1, h2, h3⟩ := hq
      refine ⟨h2.d, v, s, ?_⟩
      simp only at h1
      split at h1
      · rename_i st'' e2
        have hhp : st''.hp = st'.hp := by
          unfold St.pop at e2
          split at e2
          · cases e2; rfl
          · cases e2
        exact ⟨st'', ρ', rfl, h1, pop_rel h e2 h2, by rw [hhp]; exact h3⟩
      · exact h1.elim
    | exit id => obtain ⟨st', ρ', h1, h2⟩ := hq; exact h1.elim
    | goto l => exact hq.elim
    | outgrown => exact hq.elim
  · exact hc.elim
end
end Go.Vc
