/- Contracts. -/
import Derived.Test.YtlpbhgcndebkcaaZVcLib
import Derived.Test.YtlpbhgcndebkcaaZTy
import Derived.Test.YtlpbhgcndebkcaaZShelf
set_option linter.unusedVariables false
set_option linter.unusedSimpArgs false
namespace Go.Proofs.Ytlpbhgcndebkcaa
open Go Go.Vc Go.Pl Go.Proofs
def GL : Gl := [(0, .num .i64)]
theorem glOk {w : World} (hS : w.ShapedOpen Try.prog) : GlOk GL w (fun _ => False) := by
  obtain ⟨m, hm⟩ := Try.laysM219.s1_3 w hS
  have hm : w.cell? ⟨0, 0, none⟩ = some (.int .i64 m) := hm
  intro g v hg
  obtain ⟨rfl, rfl⟩ := gl_one hg
  exact ⟨cell_lt hm, id, m, hm⟩

end Go.Proofs.Ytlpbhgcndebkcaa
