/- Texts of a verified walk, led together: Gl0A, Gl0W. -/
import Derived.Test.YtiofbnlbfmbodaaZV05
import Derived.Test.YtiofbnlbfmbodaaZTy
set_option linter.unusedVariables false
set_option linter.unusedSimpArgs false
section
namespace Go.Proofs.Ytiofbnlbfmbodaa
open Go Go.Vc Go.Pl Go.Proofs
def GL : Gl := []
theorem glOk {w : World} : GlOk GL w (fun _ => False) := by
  intro g v hg
  cases hg
end Go.Proofs.Ytiofbnlbfmbodaa
end
section
namespace Go.Proofs.Ytiofbnlbfmbodaa
open Go Go.Vc Go.Pl Go.Proofs
end Go.Proofs.Ytiofbnlbfmbodaa
end
