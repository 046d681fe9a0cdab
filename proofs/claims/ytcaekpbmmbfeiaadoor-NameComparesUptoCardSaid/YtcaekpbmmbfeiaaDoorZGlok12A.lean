/- Contracts. -/
import Derived.Test.YtcaekpbmmbfeiaaDoorZGl12W
import Derived.Test.YtcaekpbmmbfeiaaDoorRows
set_option linter.unusedVariables false
set_option linter.unusedSimpArgs false
namespace Go.Proofs.YtcaekpbmmbfeiaaDoor
open Go Go.Vc Go.Pl Go.Proofs
set_option maxRecDepth 100000 in
theorem glOk {w : World} (hL : laidMetH Tryd.prog [("unicode/utf8.acceptRanges", Rows.laid_unicode_utf8_acceptRanges), ("unicode/utf8.first", Rows.laid_unicode_utf8_first)] w) (hS : w.ShapedOpen Tryd.prog) : GlOk GL w (fun _ => False) := by
  have hL : laidMet Tryd.prog [("unicode/utf8.acceptRanges", Rows.laid_unicode_utf8_acceptRanges), ("unicode/utf8.first", Rows.laid_unicode_utf8_first)] w := hL
  have h0 := Lib.laidMet.reads hL (n := "unicode/utf8.first") (d := Rows.laid_unicode_utf8_first) (by simp)
  have h1 := Lib.laidMet.reads hL (n := "unicode/utf8.acceptRanges") (d := Rows.laid_unicode_utf8_acceptRanges) (by simp)
  obtain ⟨m, hm⟩ := Tryd.laysM219.s1_3 w hS
  have hm : w.cell? ⟨0, 0, none⟩ = some (.int .i64 m) := hm
  obtain ⟨fs, hs, hf, ho⟩ := pairB_eq (P := Tryd.prog) (e := 156) (k := .u8) (by kernel_rfl)
  have k0 := gl_ints (P := Tryd.prog) (w := w) (g := 1) (t := 154) (e := 5) (n := 256) (k := .u8) (zs := Lib.firstTab) (by kernel_rfl) (by kernel_rfl) (by kernel_rfl) (by kernel_rfl) (by kernel_rfl) (by kernel_rfl) (by kernel_rfl) (of_decide_eq_true (by kernel_rfl)) (by kernel_rfl) h0
  have k1 := gl_pairs (P := Tryd.prog) (w := w) (g := 2) (t := 157) (e := 156) (n := 16) (k := .u8) (zs := accTab) (by kernel_rfl) (by kernel_rfl) (by kernel_rfl) hs hf ho (by kernel_rfl) (by kernel_rfl) (by kernel_rfl) (of_decide_eq_true (by kernel_rfl)) (by kernel_rfl) (by kernel_rfl) h1
  intro g v hg
  rcases gl_cons hg with ⟨rfl, rfl⟩ | hg
  · exact k0
  rcases gl_cons hg with ⟨rfl, rfl⟩ | hg
  · exact k1
  obtain ⟨rfl, rfl⟩ := gl_one hg
  exact ⟨cell_lt hm, id, m, hm⟩

end Go.Proofs.YtcaekpbmmbfeiaaDoor
