/- A function that is walked where it is called, its ways led together. -/
import Derived.Test.YtkdffofjnjamlaaDoorZVcCon
set_option linter.unusedVariables false
set_option linter.unusedSimpArgs false
namespace Go.Vc
open Go.RowKit

def joinPl : List AK → Nat → Nat → List PE × List OE
  | [], _, _ => ([], [])
  | .dat k :: l, i, N => (.var i k :: (joinPl l (i + 1) N).1, (joinPl l (i + 1) N).2)
  | .own e k :: l, i, N => (.own i N :: (joinPl l (i + 1) (N + 1)).1, .row e k :: (joinPl l (i + 1) (N + 1)).2)

def joinOb (E : Ty) (abs : Bool) (res : List AK) (st : St) : List OE :=
  let r := reach st 3 (slNames st.sl ++ (dfNames st.df ++ stkNames st.stk))
  let q := (joinPl res 0 st.hp.length).2
  let o := planOb E abs abs r (if abs then r else []) (st.hp.length + q.length) 0 st.hp
  o.1 ++ (q ++ o.2)

def vcJoinOut (E : Env) (rs : List ResultVar) (abs : Bool) (res : List AK) (st : St) (kp : SV → St → Prop) (J : PE.Tup (joinPl res 0 st.hp.length).1 → OE.Tup (joinOb E.toTy abs res st) → Prop) (st' : St) (p : Option SV) : Prop :=
  match p, st.pop st' with
  | none, _ => match resSV E.toTy st' rs with
    | some (o, l) => conj o (({ st' with n := l.length, sl := enumFrom 0 l, kn := [] } : St).fitK (joinPl res 0 st.hp.length).1 (joinOb E.toTy abs res st) ((st.sl, st.df) :: st.stk) [] st.ls fun u z => l.length = res.length ∧ J u z)
    | none => False
  | some s, some st'' => kp s st''
  | some _, none => False

def vcFnJ (E : Env) (H : Hints) (n : Nat) (rs : List ResultVar) (body : Code) (abs : Bool) (res : List AK) : CallSem := fun args st kv kp =>
  if args.length ≤ n then
    ∃ J : PE.Tup (joinPl res 0 st.hp.length).1 → OE.Tup (joinOb E.toTy abs res st) → Prop,
      (vcCode H body E (st.push n args) fun e st' => match e with
        | .normal => vcLeave E st'.df.length st' none (vcJoinOut E rs abs res st kp J)
        | .ret => vcLeave E st'.df.length st' none (vcJoinOut E rs abs res st kp J)
        | .pan s => vcLeave E st'.df.length st' (some s) (vcJoinOut E rs abs res st kp J)
        | .exit _ => False) ∧
      ∀ u z, PE.wf (joinPl res 0 st.hp.length).1 u → OE.wf (joinOb E.toTy abs res st) z → J u z → kv (resVal ((PE.mk (joinPl res 0 st.hp.length).1 u).map (·.2))) { st with hp := OE.mk (joinOb E.toTy abs res st) z }
  else False

theorem join_places : ∀ (l : List AK) (i N : Nat), PE.places (joinPl l i N).1 = List.range' i l.length
  | [], _, _ => rfl
  | .dat _ :: l, i, N => by simp only [joinPl, PE.places, join_places l, List.length_cons, List.range'_succ]
  | .own _ _ :: l, i, N => by simp only [joinPl, PE.places, join_places l, List.length_cons, List.range'_succ]

theorem slots_rels {C : Cx} {vs : List Value} : ∀ (sl : Slots) (k : Nat) (us : List Value), sl.map (·.1) = List.range' k sl.length → us.length = sl.length → (∀ j, us[j]? = vs[k + j]?) →
    (∀ i s, sl.lookup i = some s → s.rel C (vs.getD i undef)) → SV.rels C (sl.map (·.2)) us
  | [], _, us, _, hl, _, _ => List.eq_nil_of_length_eq_zero hl
  | (i, s) :: sl, k, us, hm, hl, hu, hs => by
    cases us with
    | nil => simp at hl
    | cons u us =>
      simp only [List.map_cons, List.length_cons, List.range'_succ, List.cons.injEq] at hm
      obtain ⟨rfl, hm⟩ := hm
      have h0 : some u = vs[i]? := by simpa using hu 0
      have hi := hs i s (by rw [lookup_cons, if_pos rfl])
      rw [List.getD_eq_getElem?_getD, ← h0] at hi
      refine ⟨u, us, rfl, hi, slots_rels sl (i + 1) us hm (by simpa using hl) (fun j => by
        have := hu (j + 1)
        simp only [List.getElem?_cons_succ] at this
        rw [this]; congr 1; omega) (fun j t hj => hs j t ?_)⟩
      rw [lookup_cons, if_neg]
      · exact hj
      · intro e
        subst e
        have hmem := mk_lookup hj
        have : j ∈ sl.map (·.1) := List.mem_map.2 ⟨_, hmem, rfl⟩
        rw [hm] at this
        simp [List.mem_range'] at this
        omega

section
variable {E : Env} {gl : Gl} {H : Hints} {B : Base} {ρ : Nat → Value} {st : St} {a : Act} {fs : List Act} {w : World}

theorem results_rel (hE : E.toTy.Ok) {fn : Func} {o : List Prop} {l : List SV} (e1 : resSV E.toTy st fn.results.toList = some (o, l)) (h : StRel B ρ st a fs w) (ho : ∀ p ∈ o, p) :
    ∃ vs : List Value, (results fn a.tmps).run E.P w = .ok (if h : vs.toArray.size = 1 then vs.toArray[0] else .tuple vs.toArray) w ∧ SV.rels (cx B ρ st.hp w) l vs := by
  obtain ⟨vs', h1, h2⟩ := resSV_rel hE e1 h ho
  refine ⟨vs', ?_, h2⟩
  have e : results fn a.tmps = (do let vs ← fn.results.mapM (resF a.tmps); pure (if h : vs.size = 1 then vs[0] else .tuple vs)) := by
    unfold results
    congr 1
  rw [e, Array.mapM_eq_mapM_toList]
  simp only [Sem.run_bind, Sem.run_map, h1, Result.andThen_ok, Sem.run_pure]

theorem callOk_fnJ (hE : E.Ok gl) {f : Nat} {fn : Func} {body : Code} (abs : Bool) (res : List AK) (hf : E.P.funcs[f]? = some fn) (hn : (fn.name == "runtime.NumGoroutine") = false) (hb : fn.body = some body) (hq : E.yld.isNone = true) (hrnd : E.rnd = false) :
    CallOk E.P gl f (vcFnJ E H fn.ntmps fn.results.toList body abs res) := fun args st kv kp B ρ a fs w vs hB hc h hr => by
  refine .inl ⟨fn_enter hf hn hb _ _, ?_⟩
  unfold vcFnJ at hc
  split at hc
  · rename_i hlen
    obtain ⟨J, hc, hkv⟩ := hc
    refine callsIn_wide.1 (callsIn_of_wp_marks (F := Fence.wide) (n := 0) hf hb trivial (wpIn_mono (vcCode_sound body hE hB (fun hd e => by rw [e] at hq; cases hq) (r := none) (fun _ => rfl) hc (push_rel h hr hlen)) (fun e a' w' hq => ?_)))
    have out : ∀ {st' : St} {p : Option SV} {ρ' : Nat → Value} {w' : World} {o : Option Value}, vcJoinOut E fn.results.toList abs res st kp J st' p → StRel B ρ' st' { tmps := a'.tmps, defers := [] } (a :: fs) w' → ORel (cx B ρ' st'.hp w') p o → (match o with
        | none => ∃ v, (results fn a'.tmps).run E.P w' = .ok v w' ∧ CallPost B a fs kv kp (.returned v) w'
        | some v => CallPost B a fs kv kp (.panicked [{ v := v, recovered := false }]) w') := by
      intro st' p ρ' w' o hk hr' ho
      unfold vcJoinOut at hk
      split at hk
      · have ho : o = none := ho
        subst ho
        split at hk
        · rename_i o l e1
          obtain ⟨ho, hk⟩ := conj_all hk
          obtain ⟨us, hrun, hus⟩ := results_rel hE.ty e1 hr' ho
          have hul := rels_length hus
          have h2 : StRel B ρ' { st' with n := l.length, sl := enumFrom 0 l, kn := [] } { tmps := us.toArray, defers := [] } (a :: fs) w' := by
            refine ⟨hr'.h, ⟨by simpa using hul, fun i s hs => ?_⟩, (fun t b hb => by cases hb), hr'.k, hr'.d, hr'.g⟩
            obtain ⟨_, h4⟩ := lookup_enumFrom l 0 i s hs
            obtain ⟨v, hv, hrel⟩ := rels_get hus h4
            simp only [Nat.sub_zero] at hv h4
            have hi := (List.getElem?_eq_some_iff.1 hv).1
            refine ⟨by show i < l.length; omega, ?_⟩
            rw [Array.getD_eq_getD_getElem?]
            simp only [List.getElem?_toArray, hv, Option.getD_some]
            exact hrel
          obtain ⟨ρ2, u, z, ⟨hll, hJ⟩, hu, hz, h3⟩ := fitK_sound h2 hk
          refine ⟨_, hrun, _, _, ρ2, hkv u z hu hz hJ, ?_, ?_⟩
          · obtain ⟨t, r, e, hs1, hd1, hs2⟩ := h3.k
            cases e
            exact ⟨h3.h, by rw [← h.s.1]; exact hs1, h.kn, hs2, hd1, h.g⟩
          · refine resVal_rel (slots_rels (vs := us) _ 0 us ?_ ?_ (fun j => by simp) (fun i s hs => ?_))
            · rw [mk_places, join_places]
              have := congrArg List.length (mk_places (joinPl res 0 st.hp.length).1 u)
              rw [join_places, List.length_map, List.length_range'] at this
              rw [this]
            · have := congrArg List.length (mk_places (joinPl res 0 st.hp.length).1 u)
              rw [join_places, List.length_map, List.length_range'] at this
              rw [this, hul, hll]
            · have := (h3.s.2 i s hs).2
              rw [Array.getD_eq_getD_getElem?] at this
              rw [List.getD_eq_getElem?_getD]
              simp only [List.getElem?_toArray] at this
              exact this
        · exact hk.elim
      · rename_i s st'' e2
        obtain ⟨v, rfl, hv⟩ := ho
        exact ⟨v, s, st'', ρ', rfl, hk, pop_rel h e2 hr', by rw [pop_hp e2]; exact hv⟩
      · exact hk.elim
    have leave : ∀ {st' : St} {p : Option SV} {ρ' : Nat → Value} {o : Option Value}, vcLeave E st'.df.length st' p (vcJoinOut E fn.results.toList abs res st kp J) → StRel B ρ' st' a' (a :: fs) w' → ORel (cx B ρ' st'.hp w') p o →
        LeavesInM Fence.wide 0 E.P fn a'.tmps (CallPost B a fs kv kp) a'.defers (modeOf o) w' := fun hk hr' ho =>
      leave_sound hE hB (fun _ _ _ _ _ h1 h2 h3 => out h1 h2 h3) _ hk hr' ho
    cases e with
    | normal => obtain ⟨st', ρ', h1, h2⟩ := hq; exact leave (o := none) h1 h2 rfl
    | ret => obtain ⟨st', ρ', h1, h2⟩ := hq; exact leave (o := none) h1 h2 rfl
    | panic ch => obtain ⟨v, s, st', ρ', rfl, h1, h2, h3⟩ := hq; exact leave (o := some v) h1 h2 ⟨v, rfl, h3⟩
    | exit id => obtain ⟨st', ρ', h1, h2⟩ := hq; exact h1.elim
    | goto l => exact hq.elim
    | outgrown => exact hq.elim
  · exact hc.elim
end
end Go.Vc
