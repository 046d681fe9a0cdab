import Derived.Test.YtiofbnlbfmbodaaGreatDoorZV20
set_option linter.unusedVariables false
set_option linter.unusedSimpArgs false
namespace Go.Pl
open Go.Vc
set_option linter.unusedVariables false
set_option linter.unusedSimpArgs false
theorem bulk_gens (l : List GenT) : lenG l + l.length + 1 ≤ Kd.bulk (.sl GK) l := by
  show lenG l + l.length + 1 ≤ (l.map fun x => GK.bulk x).sum + 1
  induction l with
  | nil => simp [lenG]
  | cons g l ih =>
    have e : lenG (g :: l) = g.2.length + lenG l := by simp [lenG]
    have e2 : GK.bulk g = 1 + (g.2.length + 1) := rfl
    rw [e]
    simp only [List.map_cons, List.sum_cons, List.length_cons]
    omega
theorem bulk_exts (l : List ExtT) : l.length + 1 ≤ Kd.bulk (.sl EXT) l := by
  show l.length + 1 ≤ (l.map fun x => EXT.bulk x).sum + 1
  induction l with
  | nil => simp
  | cons g l ih =>
    have e2 : EXT.bulk g = 1 + (1 + Kd.bulk (.sl (.int .u8)) g.2.2) := rfl
    simp only [List.map_cons, List.sum_cons, List.length_cons]
    omega
theorem bulk_back {l : List ExtT} {g : List GenT} {t : List GenT × List GenT} {u : Unit} (h : ABulk [.dat (.sl EXT), .dat (.sl GK), .dat (.pair (.sl GK) (.sl GK))] (l, g, t, u) ≤ 1048576) : l.length ≤ 1048576 ∧ lenG g + g.length ≤ 1048576 ∧ lenG t.1 + t.1.length ≤ 1048576 ∧ lenG t.2 + t.2.length ≤ 1048576 := by
  have h : Kd.bulk (.sl EXT) l + (Kd.bulk (.sl GK) g + ((Kd.bulk (.sl GK) t.1 + Kd.bulk (.sl GK) t.2) + 0)) ≤ 1048576 := h
  have h0 := bulk_exts l
  have h1 := bulk_gens g
  have h2 := bulk_gens t.1
  have h3 := bulk_gens t.2
  omega
theorem exts_len {l : List ExtT} {b : List Int} {e : Int} (h : ExtsD l = (b, e)) : b.length ≤ 2000000 ∧ (e = 0 ∨ e = 150) := by
  unfold ExtsD at h
  split at h
  . obtain ⟨rfl, rfl⟩ := Prod.mk.inj h; exact ⟨by simp, .inr rfl⟩
  . rename_i c
    obtain ⟨rfl, rfl⟩ := Prod.mk.inj h
    have hm : mayX l = true := by cases hh : mayX l <;> simp_all
    obtain ⟨_, h16, hall⟩ := mayX_args hm
    have h1 := flat_le extB 65610 l (fun x hx => (extB_len (hall x hx).1).2)
    rw [put_len]
    have := (lng_len (n := ((l.flatMap extB).length : Int))).2
    exact ⟨by first | omega | (simp only; omega), by first | exact .inl rfl | exact .inl trivial | simp⟩
theorem names_len {l : List GenT} {b : List Int} {e : Int} (hl : lenG l ≤ 1048576) (h : NamesD l = (b, e)) : b.length ≤ 2000000 ∧ (e = 0 ∨ e = 150) := by
  unfold NamesD at h
  split at h
  . obtain ⟨rfl, rfl⟩ := Prod.mk.inj h; exact ⟨by simp, .inr rfl⟩
  . rename_i c
    obtain ⟨rfl, rfl⟩ := Prod.mk.inj h
    have h16 : l.length ≤ 16 := by
      by_cases q : 16 < l.length
      . exact absurd (.inr (.inl q)) c
      . omega
    have h1 := genBs_len l
    rw [put_len]
    have := (lng_len (n := ((l.flatMap genB).length : Int))).2
    exact ⟨by first | omega | (simp only; omega), by first | exact .inl rfl | exact .inl trivial | simp⟩
theorem subs_len (t : Int) {l : List GenT} (h16 : l.length ≤ 16) : ((subs t l).flatMap putB).length ≤ lenG l + 200 := by
  have h1 := elTs_len l
  rw [subs_put]
  split
  . simp
  . rw [put_len]
    have := (lng_len (n := ((l.flatMap fun t => putB (elT t)).length : Int))).2
    simp only
    omega
theorem trees_len {t : List GenT × List GenT} {b : List Int} {e : Int} (hl : lenG t.1 + lenG t.2 ≤ 1048576) (h : TreesD t = (b, e)) : b.length ≤ 2000000 ∧ (e = 0 ∨ (e = 150 ∧ b = [])) := by
  unfold TreesD at h
  split at h
  . obtain ⟨rfl, rfl⟩ := Prod.mk.inj h; exact ⟨by simp, .inr ⟨rfl, rfl⟩⟩
  . rename_i c
    obtain ⟨rfl, rfl⟩ := Prod.mk.inj h
    obtain ⟨q1, q2, _⟩ := badTr_no c
    have h1 := subs_len 160 q1
    have h2 := subs_len 161 q2
    rw [treesB, put_len, List.flatMap_append]
    simp only
    rw [List.length_append]
    have := (lng_len (n := ((((subs 160 t.1).flatMap putB).length + ((subs 161 t.2).flatMap putB).length : Nat) : Int))).2
    exact ⟨by first | omega | (simp only; omega), by first | exact .inl rfl | exact .inl trivial | simp⟩
end Go.Pl
