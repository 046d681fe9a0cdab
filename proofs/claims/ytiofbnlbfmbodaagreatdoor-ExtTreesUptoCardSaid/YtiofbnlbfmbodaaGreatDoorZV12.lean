import Derived.Test.YtiofbnlbfmbodaaGreatDoorZV09
import Derived.Test.YtiofbnlbfmbodaaGreatDoorZV10
import Derived.Test.YtiofbnlbfmbodaaGreatDoorZV11
set_option linter.unusedVariables false
set_option linter.unusedSimpArgs false
namespace Go.Pl
open Go.Vc
set_option linter.unusedVariables false
set_option linter.unusedSimpArgs false
def elK (a : AttrT) : EltT := ((kindD a.2).1, a.2)
def attrB (a : AttrT) : List Int := putB (48, putB (6, [85, 4, a.1]) ++ putB (elK a))
def attrE (a : AttrT) : List Int := putB (49, attrB a)
def encN (n : List AttrT) : List Int := putB (48, n.flatMap attrE)
def EncN (n : List AttrT) : List Int × Int := if mayN n then (encN n, 0) else ([], 120)
theorem label_range {k : Int} (h : labelK k ≠ []) : 3 ≤ k ∧ k ≤ 11 := by
  rcases label_cases k with ⟨e, _⟩ | ⟨e, _⟩ | ⟨e, _⟩ | ⟨e, _⟩ | ⟨e, _⟩ | ⟨e, _⟩ | ⟨e, _⟩ | e
  all_goals first | omega | exact absurd e h
theorem num_small {n : Int} (h0 : 0 ≤ n) (h1 : n < 128) : numO n = [n] := by
  unfold numO hiN
  rw [if_pos h1, hiD, List.nil_append, show n % 128 = n by omega]
theorem enc_attr {k : Int} (h0 : 0 ≤ k) (h1 : k < 128) : mayO [2, 5, 4, k] = true ∧ encO [2, 5, 4, k] = [85, 4, k] := by
  constructor
  . have : inArc k = true := by simp [inArc]; omega
    simp [mayO, inArc, h0]
    omega
  . show numO (40 * 2 + 5) ++ [4, k].flatMap numO = _
    rw [List.flatMap_cons, List.flatMap_cons, List.flatMap_nil, num_small (n := 40 * 2 + 5) (by decide) (by decide), num_small (n := 4) (by decide) (by decide), num_small h0 h1]
    rfl
theorem may_kind {a : AttrT} (h : mayA a = true) : (kindD a.2).2 = 0 ∧ ((kindD a.2).1 = 19 ∨ (kindD a.2).1 = 12) := by
  simp only [mayA, Bool.and_eq_true, decide_eq_true_eq] at h
  unfold kindD
  split
  . exact ⟨rfl, .inl rfl⟩
  . rw [if_pos h.2.1]
    exact ⟨rfl, .inr rfl⟩
theorem lng_small {n : Int} (h : n < 128) : lngD n = [n] := by rw [lngD, if_pos h]
theorem put_small {x : EltT} (h : x.2.length < 128) : (putB x).length = 2 + x.2.length := by
  rw [put_len, lng_small (by omega)]; simp
theorem attrB_len {a : AttrT} (h : mayA a = true) : (attrB a).length ≤ 73 := by
  have hv := mayA_len h
  have e1 : (putB (6, [85, 4, a.1])).length = 5 := put_small (x := (6, [85, 4, a.1])) (by simp)
  have e2 : (putB (elK a)).length = 2 + a.2.length := put_small (x := elK a) (by show a.2.length < 128; omega)
  have e3 := put_small (x := (48, putB (6, [85, 4, a.1]) ++ putB (elK a))) (by simp only [List.length_append]; omega)
  rw [attrB, e3]
  simp only [List.length_append]
  omega
theorem attrE_len {a : AttrT} (h : mayA a = true) : (attrE a).length ≤ 75 := by
  have := attrB_len h
  rw [attrE, put_small (by simp only; omega)]
  simp only
  omega
theorem flat_len (l : List AttrT) (h : ∀ a ∈ l, mayA a = true) : (l.flatMap attrE).length ≤ 75 * l.length := by
  induction l with
  | nil => simp
  | cons a l ih =>
    have h1 := attrE_len (h a (by simp))
    have h2 := ih fun b hb => h b (List.mem_cons_of_mem _ hb)
    rw [List.flatMap_cons, List.length_append, List.length_cons]
    omega
theorem encN_len {n : List AttrT} (h : mayN n = true) : (encN n).length ≤ 1300 := by
  obtain ⟨h1, h2⟩ := mayN_args h
  have h3 := flat_len n h2
  have h4 := lng_len (n := ((n.flatMap attrE).length : Int))
  rw [encN, put_len]
  simp only
  omega
theorem tag_48 : isTagD 48 = true ∧ isTagD 49 = true ∧ isTagD 6 = true ∧ isTagD 19 = true ∧ isTagD 12 = true := by decide
theorem one_attrB {a : AttrT} (h : mayA a = true) : oneD (attrB a) = ((48, putB (6, [85, 4, a.1]) ++ putB (elK a)), 0) := by
  have := attrB_len h
  rw [attrB, put_len] at this
  exact one_put (x := (48, putB (6, [85, 4, a.1]) ++ putB (elK a))) tag_48.1 (by simp only at this ⊢; omega)
theorem all_attrB {a : AttrT} (h : mayA a = true) : allD (putB (6, [85, 4, a.1]) ++ putB (elK a)) = ([(6, [85, 4, a.1]), elK a], ((putB (6, [85, 4, a.1]) ++ putB (elK a)).length : Int), 0) := by
  have hv := mayA_len h
  have hk := (may_kind h).2
  have := all_flat (l := [(6, [85, 4, a.1]), elK a]) (fun x hx => by
    rcases List.mem_cons.1 hx with rfl | hx
    . exact ⟨tag_48.2.2.1, by simp⟩
    . rw [List.mem_singleton.1 hx]
      refine ⟨?_, by show a.2.length ≤ _; omega⟩
      show isTagD (kindD a.2).1 = true
      rcases hk with e | e <;> rw [e] <;> decide)
  simpa using this
theorem one_encN {n : List AttrT} (h : mayN n = true) : oneD (encN n) = ((48, n.flatMap attrE), 0) := by
  have := encN_len h
  rw [encN, put_len] at this
  exact one_put (x := (48, n.flatMap attrE)) tag_48.1 (by simp only at this ⊢; omega)
theorem flat_sets (n : List AttrT) : n.flatMap attrE = (n.map fun a => ((49 : Int), attrB a)).flatMap putB := by
  rw [List.flatMap_map]; rfl
theorem all_encN {n : List AttrT} (h : mayN n = true) : allD (n.flatMap attrE) = (n.map fun a => ((49 : Int), attrB a), ((n.flatMap attrE).length : Int), 0) := by
  obtain ⟨h1, h2⟩ := mayN_args h
  have := all_flat (l := n.map fun a => ((49 : Int), attrB a)) (fun x hx => by
    obtain ⟨a, ha, rfl⟩ := List.mem_map.1 hx
    have := attrB_len (h2 a ha)
    exact ⟨tag_48.2.1, by simp only; omega⟩)
  rw [← flat_sets] at this
  exact this
def attrR (b : List Int) (a : AttrT) (ok : Bool) : Prop := (ok = true → mayA a = true ∧ attrB a = b) ∧ (ok = false → ∀ m, mayA m = true → attrB m ≠ b)
noncomputable def attrQ (b : List Int) (a : AttrT) (ok : Bool) : Bool := @decide (attrR b a ok) (Classical.propDecidable _)
theorem attrQ_iff {b : List Int} {a : AttrT} {ok : Bool} : attrQ b a ok = true ↔ attrR b a ok := by unfold attrQ; exact @decide_eq_true_iff _ (Classical.propDecidable _)
theorem attrQ_bad {b : List Int} {a : AttrT} (h : ∀ m, mayA m = true → attrB m = b → False) : attrQ b a false = true := attrQ_iff.2 ⟨fun h => (by cases h), fun _ m hm e => h m hm e⟩
theorem attr_read {b : List Int} {m : AttrT} (hm : mayA m = true) (e : attrB m = b) : oneD b = ((48, putB (6, [85, 4, m.1]) ++ putB (elK m)), 0) ∧ allD (oneD b).1.2 = ([(6, [85, 4, m.1]), elK m], ((putB (6, [85, 4, m.1]) ++ putB (elK m)).length : Int), 0) ∧ DecD [85, 4, m.1] = ([2, 5, 4, m.1], 0) := by
  subst e
  have h1 := one_attrB hm
  refine ⟨h1, by rw [h1]; exact all_attrB hm, ?_⟩
  have hr := label_range (mayA_label hm)
  obtain ⟨g1, g2⟩ := enc_attr (k := m.1) (by omega) (by omega)
  rw [← g2]
  exact dec_enc g1
theorem read_attr {b : List Int} (hb : Bys b) {a : AttrT} {l : List EltT} {n : Int} {x y : EltT} {arcs : List Int} (h1 : (oneD b).2 = 0) (h2 : (oneD b).1.1 = 48) (h3 : allD (oneD b).1.2 = ([x, y], n, 0)) (h4 : x.1 = 6) (h5 : DecD x.2 = ([2, 5, 4, a.1], 0)) (h6 : y.2 = a.2) (h7 : (kindD a.2).1 = y.1) (h8 : mayA a = true) : attrB a = b := by
  obtain ⟨k1, k2, k3⟩ := one_back hb h1
  have hbc : Bys (oneD b).1.2 := fun z hz => hb z (by rw [k3]; simp [putB, hz])
  have k4 := flat_all hbc (by rw [h3])
  rw [h3] at k4
  simp only at k4
  have hbx : Bys x.2 := fun z hz => hbc z (by rw [k4.1]; simp [putB, hz])
  have hr := label_range (mayA_label h8)
  obtain ⟨g1, g2⟩ := enc_attr (k := a.1) (by omega) (by omega)
  have e1 := (enc_dec hbx h5).2
  rw [g2] at e1
  rw [k3]
  show putB (48, _) = putB (oneD b).1
  have ex : x = (6, [85, 4, a.1]) := Prod.ext h4 e1.symm
  have ey : y = elK a := Prod.ext h7.symm h6
  rw [ex, ey] at k4
  have : (oneD b).1 = (48, putB (6, [85, 4, a.1]) ++ putB (elK a)) := Prod.ext h2 (by rw [k4.1]; simp)
  rw [this]
def decR12 (b : List Int) (l : List AttrT) (e : Int) : Prop := ((oneD b).2 ≠ 0 ∧ e = (oneD b).2 ∧ l = []) ∨ ((oneD b).2 = 0 ∧ ((e = 0 ∧ mayN l = true ∧ encN l = b) ∨ (e = 120 ∧ l = [] ∧ ∀ m, mayN m = true → encN m ≠ b)))
noncomputable def decQ (b : List Int) (l : List AttrT) (e : Int) : Bool := @decide (decR12 b l e) (Classical.propDecidable _)
theorem decQ_iff {b : List Int} {l : List AttrT} {e : Int} : decQ b l e = true ↔ decR12 b l e := by unfold decQ; exact @decide_eq_true_iff _ (Classical.propDecidable _)
theorem decQ_bad {b : List Int} (h0 : (oneD b).2 = 0) (h : ∀ m, mayN m = true → encN m = b → False) : decQ b [] 120 = true := decQ_iff.2 (.inr ⟨h0, .inr ⟨rfl, rfl, fun m hm e => h m hm e⟩⟩)
def insD (b : List Int) (t : Int) : List EltT × Bool := if (oneD b).2 ≠ 0 ∨ (oneD b).1.1 ≠ t then ([], false) else ((allD (oneD b).1.2).1, decide ((allD (oneD b).1.2).2.2 = 0))
def gOne (x : EltT) : Option AttrT := if (insD x.2 48).2 = true ∧ (insD x.2 48).1.length = 2 ∧ ((insD x.2 48).1.getD 0 edft).2.length = 3 then some (((insD x.2 48).1.getD 0 edft).2.getD 2 0, ((insD x.2 48).1.getD 1 edft).2) else none
def gAll : List EltT → Option (List AttrT)
  | [] => some []
  | x :: l => match gOne x, gAll l with
    | some a, some r => some (a :: r)
    | _, _ => none
def guessD (b : List Int) : List AttrT := (gAll (insD b 48).1).getD []
theorem gOne_set {a : AttrT} (h : mayA a = true) : gOne (49, attrB a) = some a := by
  have e : insD (attrB a) 48 = ([(6, [85, 4, a.1]), elK a], true) := by
    rw [insD, one_attrB h]
    simp only [ne_eq, not_true_eq_false, or_self, if_false]
    rw [all_attrB h]
    rfl
  rw [gOne]
  simp only [e]
  rfl
theorem gAll_sets : ∀ {n : List AttrT}, (∀ a ∈ n, mayA a = true) → gAll (n.map fun a => ((49 : Int), attrB a)) = some n
  | [], _ => rfl
  | a :: n, h => by
    rw [List.map_cons, gAll, gOne_set (h a (by simp)), gAll_sets fun b hb => h b (List.mem_cons_of_mem _ hb)]
theorem guess_enc {n : List AttrT} (h : mayN n = true) : guessD (encN n) = n := by
  rw [guessD, insD, one_encN h]
  simp only [ne_eq, not_true_eq_false, or_self, if_false]
  rw [all_encN h]
  simp only
  rw [gAll_sets (mayN_args h).2]
  rfl
theorem enc_inj {l m : List AttrT} (hl : mayN l = true) (hm : mayN m = true) (h : encN l = encN m) : l = m := by
  rw [← guess_enc hl, h, guess_enc hm]
theorem decQ_det {b : List Int} {l l' : List AttrT} {e e' : Int} (h : decQ b l e = true) (h' : decQ b l' e' = true) : l = l' ∧ e = e' := by
  rcases decQ_iff.1 h with ⟨h0, rfl, rfl⟩ | ⟨h0, h1⟩ <;> rcases decQ_iff.1 h' with ⟨h2, rfl, rfl⟩ | ⟨h2, h3⟩
  . exact ⟨rfl, rfl⟩
  . exact absurd h2 h0
  . exact absurd h0 h2
  . rcases h1 with ⟨rfl, h1, e1⟩ | ⟨rfl, rfl, h1⟩ <;> rcases h3 with ⟨rfl, h3, e3⟩ | ⟨rfl, rfl, h3⟩
    . exact ⟨enc_inj h1 h3 (e1.trans e3.symm), rfl⟩
    . exact absurd e1 (h3 _ h1)
    . exact absurd e3 (h1 _ h3)
    . exact ⟨rfl, rfl⟩
theorem decQ_ok {b : List Int} {l : List AttrT} (h : decQ b l 0 = true) : mayN l = true ∧ encN l = b := by
  rcases decQ_iff.1 h with ⟨h0, h1, _⟩ | ⟨_, ⟨_, h1, h2⟩ | ⟨h1, _⟩⟩
  . exact absurd h1.symm h0
  . exact ⟨h1, h2⟩
  . cases h1
theorem decQ_of {n l : List AttrT} {e : Int} (hn : mayN n = true) (h : decQ (encN n) l e = true) : l = n ∧ e = 0 :=
  decQ_det h (decQ_iff.2 (.inr ⟨by rw [one_encN hn], .inl ⟨rfl, hn, rfl⟩⟩))
theorem guess_dec {b : List Int} (h0 : (oneD b).2 = 0) : decQ b (if EncN (guessD b) = (b, 0) then guessD b else []) (if EncN (guessD b) = (b, 0) then 0 else 120) = true := by
  by_cases h : EncN (guessD b) = (b, 0)
  . rw [if_pos h, if_pos h]
    unfold EncN at h
    split at h
    . rename_i hm
      exact decQ_iff.2 (.inr ⟨h0, .inl ⟨rfl, hm, (Prod.mk.inj h).1⟩⟩)
    . exact absurd (Prod.mk.inj h).2 (by decide)
  . rw [if_neg h, if_neg h]
    refine decQ_bad h0 fun m hm e => h ?_
    rw [← e, guess_enc hm, EncN, if_pos hm]
theorem enc_sets {b : List Int} (hb : Bys b) {l : List AttrT} {n : Int} (h1 : (oneD b).2 = 0) (h2 : (oneD b).1.1 = 48) (h3 : allD (oneD b).1.2 = (l.map (fun a => ((49 : Int), attrB a)), n, 0)) : encN l = b := by
  obtain ⟨k1, k2, k3⟩ := one_back hb h1
  have hbc : Bys (oneD b).1.2 := fun z hz => hb z (by rw [k3]; simp [putB, hz])
  have k4 := flat_all hbc (by rw [h3])
  rw [h3] at k4
  simp only at k4
  rw [← flat_sets] at k4
  rw [k3, encN, ← k4.1, ← h2]
theorem takeD_len (b : List Int) : (takeD b).1.2.length ≤ b.length := by
  unfold takeD
  split
  . simp
  split
  . simp
  . simp only [List.length_take, List.length_drop]; omega
theorem oneD_len (b : List Int) : (oneD b).1.2.length ≤ b.length := by
  unfold oneD
  split
  . simp
  . exact takeD_len b
theorem rowR_len (b : List Int) : ∀ (k : Nat) (i : Int), (rowR b k i).1.length ≤ k ∧ ∀ x ∈ (rowR b k i).1, x.2.2.length ≤ b.length
  | 0, i => ⟨by simp [rowR], fun x hx => by simp [rowR] at hx⟩
  | k + 1, i => by
    rw [rowR]
    split
    . split
      . exact ⟨by simp, fun x hx => by simp at hx⟩
      . obtain ⟨h1, h2⟩ := rowR_len b k (i + (takeD (b.drop i.toNat)).2.1)
        refine ⟨by simp only [List.length_cons]; omega, fun x hx => ?_⟩
        rcases List.mem_cons.1 hx with rfl | hx
        . have := takeD_len (b.drop i.toNat)
          rw [List.length_drop] at this
          simp only
          omega
        . exact h2 x hx
    . exact ⟨by simp, fun x hx => by simp at hx⟩
theorem allD_len (b : List Int) : (allD b).1.length ≤ b.length ∧ ∀ x ∈ (allD b).1, x.2.length ≤ b.length := by
  unfold allD
  obtain ⟨h1, h2⟩ := rowR_len b b.length 0
  split
  . exact ⟨by simp, fun x hx => by simp at hx⟩
  . refine ⟨by simp only [List.length_map]; exact h1, fun x hx => ?_⟩
    obtain ⟨y, hy, rfl⟩ := List.mem_map.1 hx
    exact h2 y hy
theorem insD_len (b : List Int) (t : Int) : (insD b t).1.length ≤ b.length ∧ ∀ x ∈ (insD b t).1, x.2.length ≤ b.length := by
  unfold insD
  split
  . exact ⟨by simp, fun x hx => by simp at hx⟩
  . obtain ⟨h1, h2⟩ := allD_len (oneD b).1.2
    have := oneD_len b
    exact ⟨by simp only; omega, fun x hx => by have := h2 x hx; omega⟩
theorem gOne_len {x : EltT} {a : AttrT} (h : gOne x = some a) : a.2.length ≤ x.2.length := by
  unfold gOne at h
  split at h
  . rename_i hc
    cases h
    exact (insD_len x.2 48).2 ((insD x.2 48).1.getD 1 edft) (mem_getD edft (insD x.2 48).1 1 (by rw [hc.2.1]; decide))
  . cases h
theorem gAll_len : ∀ {l : List EltT} {r : List AttrT}, gAll l = some r → r.length = l.length ∧ ∀ a ∈ r, ∃ x ∈ l, a.2.length ≤ x.2.length
  | [], r, h => by cases h; exact ⟨rfl, fun a ha => by cases ha⟩
  | x :: l, r, h => by
    rw [gAll] at h
    split at h
    . rename_i a q e1 e2
      cases h
      obtain ⟨h1, h2⟩ := gAll_len e2
      refine ⟨by rw [List.length_cons, List.length_cons, h1], fun b hb => ?_⟩
      rcases List.mem_cons.1 hb with rfl | hb
      . exact ⟨x, by simp, gOne_len e1⟩
      . obtain ⟨y, hy, hl⟩ := h2 b hb
        exact ⟨y, List.mem_cons_of_mem _ hy, hl⟩
    . cases h
theorem guess_len (b : List Int) : (guessD b).length ≤ b.length ∧ ∀ a ∈ guessD b, a.2.length ≤ b.length := by
  unfold guessD
  obtain ⟨h1, h2⟩ := insD_len b 48
  cases h : gAll (insD b 48).1 with
  | none => exact ⟨by simp, fun a ha => by cases ha⟩
  | some r =>
    obtain ⟨h3, h4⟩ := gAll_len h
    refine ⟨by simp only [Option.getD_some]; omega, fun a ha => ?_⟩
    obtain ⟨x, hx, hl⟩ := h4 a ha
    have := h2 x hx
    omega
theorem gAll_step {x : EltT} {a : AttrT} (h : gOne x = some a) (l : List EltT) : gAll (x :: l) = (gAll l).map (a :: ·) := by
  rw [gAll, h]
  cases gAll l <;> rfl
theorem gAll_bad {x : EltT} (h : gOne x = none) (l : List EltT) : gAll (x :: l) = none := by
  rw [gAll, h]
theorem dec_read {b : List Int} {m : List AttrT} (hm : mayN m = true) (e : encN m = b) : oneD b = ((48, m.flatMap attrE), 0) ∧ allD (oneD b).1.2 = (m.map (fun a => ((49 : Int), attrB a)), ((m.flatMap attrE).length : Int), 0) := by
  subst e
  have h1 := one_encN hm
  exact ⟨h1, by rw [h1]; exact all_encN hm⟩
theorem two_list {l : List EltT} (h : l.length = 2) : l = [l.getD 0 edft, l.getD 1 edft] := by
  match l, h with
  | [a, b], _ => rfl
theorem four_list {l : List Int} (h : l.length = 4) (h3 : l.take 3 = [2, 5, 4]) : l = [2, 5, 4, l.getD 3 0] := by
  match l, h with
  | [a, b, c, d], _ => simp at h3 ⊢; exact h3
theorem put_nil (t : Int) (c : List Int) (ht : isTagD t = true) (hc : c.length ≤ 16777215) : PutD [] t c = (putB (t, c), 0) := by
  rw [PutD, if_neg (by rw [ht]; decide), if_neg (by omega), List.nil_append]
theorem flat_one (c : List Int) : [c].flatten = c := by simp
theorem enc_oid {a : AttrT} (h : mayA a = true) : EncO [2, 5, 4, a.1] = ([85, 4, a.1], 0) := by
  have hr := label_range (mayA_label h)
  obtain ⟨g1, g2⟩ := enc_attr (k := a.1) (by omega) (by omega)
  rw [EncO, if_pos g1, g2]
end Go.Pl
