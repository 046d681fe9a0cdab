import Derived.Test.YtiofbnlbfmbodaaGreatDoorZV20
set_option linter.unusedVariables false
set_option linter.unusedSimpArgs false
namespace Go.Pl
open Go.Vc
set_option linter.unusedVariables false
set_option linter.unusedSimpArgs false
theorem bulk_gens (l : List GenT) : lenG l + l.length + 1 ≤ Kd.bulk (.sl GK) l := by
  show lenG l + l.length + 1 ≤ (l.map fun x => GK.bulk x).sum + 1
  induction l with
  | nil => simp [lenG]
  | cons g l ih =>
    have e : lenG (g :: l) = g.2.length + lenG l := by simp [lenG]
    have e2 : GK.bulk g = 1 + (g.2.length + 1) := rfl
    rw [e]
    simp only [List.map_cons, List.sum_cons, List.length_cons]
    omega
theorem bulk_names {l : List GenT} {p b : List Int} {u : Unit} (h : ABulk [.dat (.sl GK), .dat (.sl (.int .i64)), .dat (.sl (.int .u8))] (l, p, b, u) ≤ 1048576) : lenG l + l.length ≤ 1048576 ∧ l.length ≤ 1048576 ∧ p.length ≤ 1048576 ∧ b.length ≤ 1048576 := by
  have h : Kd.bulk (.sl GK) l + (Kd.bulk (.sl (.int .i64)) p + (Kd.bulk (.sl (.int .u8)) b + 0)) ≤ 1048576 := h
  have h1 := bulk_gens l
  rw [bulk_ints, bulk_ints] at h
  omega
end Go.Pl
