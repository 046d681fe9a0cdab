import Derived.Test.YtbdfeddakniaeaaDoorZV08
import Derived.Lib.ReplaceLaws
set_option linter.unusedVariables false
set_option linter.unusedSimpArgs false
namespace Go.Pl
open Go.Vc
set_option linter.unusedVariables false
set_option linter.unusedSimpArgs false
def repD (c : Int) (nw l : List Int) : List Int := l.flatMap fun x => if x = c then nw else [x]
theorem rep_no {c : Int} {nw : List Int} : ∀ {l : List Int}, c ∉ l → repD c nw l = l
  | [], _ => rfl
  | a :: l, h => by
    have ha : a ≠ c := fun e => h (by simp [e])
    show (if a = c then nw else [a]) ++ repD c nw l = _
    rw [if_neg ha, rep_no fun hm => h (List.mem_cons_of_mem _ hm)]
    rfl
theorem rep_app (c : Int) (nw x y : List Int) : repD c nw (x ++ y) = repD c nw x ++ repD c nw y := by simp [repD, List.flatMap_append]
theorem u8s_app (x y : List Int) : u8s (x ++ y) = u8s x ++ u8s y := List.map_append
theorem replK {c : Int} (hc : 0 ≤ c ∧ c ≤ 255) (nw : List Int) : ∀ (k : Nat) (l : List Int), Bys l → Lib.count (u8s l) (u8s [c]) = k → Lib.replaceK (u8s [c]) (u8s nw) k (u8s l) = u8s (repD c nw l) := by
  have hb : Bys [c] := fun b hb => by rw [List.mem_singleton.1 hb]; exact hc
  intro k
  induction k with
  | zero =>
    intro l hl hk
    have hno : c ∉ l := fun hm => by
      have h1 : 0 ≤ idxB l c := (idxB_mem l c).2 hm
      have h2 : Lib.index (u8s l) (u8s [c]) = ((idxB l c).toNat : Int) := by rw [idxS_lib l [c] hl hb, idxS_one]; omega
      rw [Lib.count_hit (by simp [u8s]) h2] at hk
      omega
    rw [rep_no hno]
    rfl
  | succ k ih =>
    intro l hl hk
    obtain ⟨i, hi⟩ := Lib.index_of_count (s := u8s l) (old := u8s [c]) (by omega)
    have hi2 : idxB l c = (i : Int) := by rw [← hi, idxS_lib l [c] hl hb, idxS_one]
    obtain ⟨h1, h2⟩ := idx_some (l := l) (c := c) (by omega)
    rw [hi2, Int.toNat_natCast] at h1 h2
    have hd : (u8s l).drop (i + (u8s [c]).length) = u8s (l.drop (i + 1)) := by unfold u8s; rw [List.map_drop]; rfl
    have ht : (u8s l).take i = u8s (l.take i) := by unfold u8s; rw [List.map_take]
    rw [Lib.count_hit (by simp [u8s]) hi, hd] at hk
    rw [Lib.replaceK_hit _ _ _ _ _ hi, hd, ht, ih _ (bys_drop hl _) (by omega)]
    conv => rhs; rw [h2]
    rw [rep_app, rep_no h1, show repD c nw (c :: l.drop (i + 1)) = nw ++ repD c nw (l.drop (i + 1)) by simp [repD], u8s_app, u8s_app, List.append_assoc]
theorem bys_rep {c : Int} {nw l : List Int} (hn : Bys nw) (hl : Bys l) : Bys (repD c nw l) := fun b hb => by
  obtain ⟨x, hx, hb⟩ := List.mem_flatMap.1 hb
  split at hb
  . exact hn b hb
  . rw [List.mem_singleton.1 hb]; exact hl x hx
theorem bs_of_u8s {l : List Int} (h : Bys l) : bs ⟨(u8s l).toArray⟩ = l := by
  rw [bs_u8s]
  unfold u8s
  rw [List.map_map]
  conv => rhs; rw [← List.map_id l]
  refine List.map_congr_left fun b hb => ?_
  have := h b hb
  simp
  omega
theorem replAll {c : Int} (hc : 0 ≤ c ∧ c ≤ 255) {nw l : List Int} (hl : Bys l) (hn : Bys nw) (hne : u8s [c] ≠ u8s nw) : bs ⟨(Lib.replaceAll (u8s l) (u8s [c]) (u8s nw)).toArray⟩ = repD c nw l := by
  unfold Lib.replaceAll Lib.replace
  rw [if_neg (by simpa using hne)]
  have : Lib.replaceNum (u8s l) (u8s [c]) (-1) = Lib.count (u8s l) (u8s [c]) := by rw [Lib.replaceNum, if_pos (.inl (by decide))]
  rw [this, replK hc nw _ l hl rfl, bs_of_u8s (bys_rep hn hl)]
theorem rep_len (c : Int) (nw : List Int) (h : nw.length ≤ 2) : ∀ l : List Int, (repD c nw l).length ≤ 2 * l.length
  | [] => by simp [repD]
  | a :: l => by
    have := rep_len c nw h l
    show ((if a = c then nw else [a]) ++ repD c nw l).length ≤ _
    rw [List.length_append, List.length_cons]
    split
    . omega
    . rw [List.length_singleton]; omega
theorem rep_esc : ∀ v : List Int, repD 44 [92, 44] (repD 92 [92, 92] v) = escD v
  | [] => rfl
  | a :: v => by
    have ih := rep_esc v
    rw [esc_cons, ← ih]
    show repD 44 [92, 44] ((if a = 92 then [92, 92] else [a]) ++ repD 92 [92, 92] v) = _
    rw [rep_app]
    congr 1
    by_cases h1 : a = 92
    . subst h1; decide
    . rw [if_neg h1]
      by_cases h2 : a = 44
      . subst h2; decide
      . rw [if_neg (fun h => h.elim h2 h1)]
        simp [repD, h2]
theorem join_txtN (n : List AttrT) : joinO (n.map attrT) [44] = textN n := rfl
end Go.Pl
