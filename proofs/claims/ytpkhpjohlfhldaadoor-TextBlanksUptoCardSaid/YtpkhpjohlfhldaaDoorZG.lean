/- The two tables of unicode/utf8, from what a row lists. -/
import Derived.Test.YtpkhpjohlfhldaaDoorRows
import Derived.Test.YtpkhpjohlfhldaaDoorZW2
set_option linter.unusedVariables false
set_option linter.unusedSimpArgs false
namespace Go.Proofs.YtpkhpjohlfhldaaDoor
open Go Go.Vc Go.Proofs Go.RowKit Go.Lib

set_option maxRecDepth 100000 in
theorem glOk {w : World} (hL : laidMetH Tryd.prog [("unicode/utf8.acceptRanges", Rows.laid_unicode_utf8_acceptRanges), ("unicode/utf8.first", Rows.laid_unicode_utf8_first)] w) : GlOk GL w (fun _ => False) := by
  have hL : laidMet Tryd.prog [("unicode/utf8.acceptRanges", Rows.laid_unicode_utf8_acceptRanges), ("unicode/utf8.first", Rows.laid_unicode_utf8_first)] w := hL
  have h0 := laidMet.reads hL (n := "unicode/utf8.first") (d := Rows.laid_unicode_utf8_first) (by simp)
  have h1 := laidMet.reads hL (n := "unicode/utf8.acceptRanges") (d := Rows.laid_unicode_utf8_acceptRanges) (by simp)
  obtain ⟨fs, hs, hf, ho⟩ := pairB_eq (P := Tryd.prog) (e := 53) (k := .u8) (by kernel_rfl)
  intro g v hg
  match g, hg with
  | 0, hg =>
    cases hg
    exact gl_ints (t := 50) (e := 5) (n := 256) (by kernel_rfl) (by kernel_rfl) (by kernel_rfl) (by kernel_rfl) (by kernel_rfl) (by kernel_rfl) (by kernel_rfl) (of_decide_eq_true (by kernel_rfl)) (by kernel_rfl) h0
  | 1, hg =>
    cases hg
    exact gl_pairs (t := 54) (e := 53) (n := 16) (by kernel_rfl) (by kernel_rfl) (by kernel_rfl) hs hf ho (by kernel_rfl) (by kernel_rfl) (by kernel_rfl) (of_decide_eq_true (by kernel_rfl)) (by kernel_rfl) (by kernel_rfl) h1
  | n + 2, hg => cases hg
end Go.Proofs.YtpkhpjohlfhldaaDoor
