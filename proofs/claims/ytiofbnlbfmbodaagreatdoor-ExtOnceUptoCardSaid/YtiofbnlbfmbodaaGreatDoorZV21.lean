import Derived.Test.YtiofbnlbfmbodaaGreatDoorZV20
set_option linter.unusedVariables false
set_option linter.unusedSimpArgs false
namespace Go.Pl
open Go.Vc
set_option linter.unusedVariables false
set_option linter.unusedSimpArgs false
theorem bulk_bytes {b : List Int} {u : Unit} (h : ABulk [.dat (.sl (.int .u8))] (b, u) ≤ 1048576) : b.length ≤ 1048576 := by
  have h : Kd.bulk (.sl (.int .u8)) b + 0 ≤ 1048576 := h
  rw [bulk_ints] at h
  omega
end Go.Pl
