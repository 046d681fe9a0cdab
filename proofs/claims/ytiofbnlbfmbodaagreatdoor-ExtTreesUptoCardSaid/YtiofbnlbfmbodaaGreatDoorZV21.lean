import Derived.Test.YtiofbnlbfmbodaaGreatDoorZV20
set_option linter.unusedVariables false
set_option linter.unusedSimpArgs false
namespace Go.Pl
open Go.Vc
set_option linter.unusedVariables false
set_option linter.unusedSimpArgs false
theorem bulk_gens (l : List GenT) : lenG l + l.length + 1 ≤ Kd.bulk (.sl GK) l := by
  show lenG l + l.length + 1 ≤ (l.map fun x => GK.bulk x).sum + 1
  induction l with
  | nil => simp [lenG]
  | cons g l ih =>
    have e : lenG (g :: l) = g.2.length + lenG l := by simp [lenG]
    have e2 : GK.bulk g = 1 + (g.2.length + 1) := rfl
    rw [e]
    simp only [List.map_cons, List.sum_cons, List.length_cons]
    omega
theorem bulk_trees {t : List GenT × List GenT} {b : List Int} {u : Unit} (h : ABulk [.dat (.pair (.sl GK) (.sl GK)), .dat (.sl (.int .u8))] (t, b, u) ≤ 1048576) : lenG t.1 + t.1.length ≤ 1048576 ∧ lenG t.2 + t.2.length ≤ 1048576 ∧ b.length ≤ 1048576 := by
  have h : (Kd.bulk (.sl GK) t.1 + Kd.bulk (.sl GK) t.2) + (Kd.bulk (.sl (.int .u8)) b + 0) ≤ 1048576 := h
  have h1 := bulk_gens t.1
  have h2 := bulk_gens t.2
  rw [bulk_ints] at h
  omega
end Go.Pl
