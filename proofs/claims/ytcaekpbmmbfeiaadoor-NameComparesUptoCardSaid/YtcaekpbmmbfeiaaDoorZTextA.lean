/- Contracts. -/
import Derived.Test.YtcaekpbmmbfeiaaDoorZStrsW
import Derived.Test.YtcaekpbmmbfeiaaDoorZVcText
set_option linter.unusedVariables false
set_option linter.unusedSimpArgs false
namespace Go.Proofs.YtcaekpbmmbfeiaaDoor
open Go Go.Vc Go.Pl Go.Proofs
def c_utf8_DecodeRuneInString : Con := { args := [.dat .str], res := [.dat I32, .dat I64], pre := fun _ => True, post := fun x y => y.1 = (decD x.1).1 ∧ y.2.1 = (decD x.1).2 }
def c_utf8_decodeRuneInStringSlow : Con := { args := [.dat .str], res := [.dat I32, .dat I64], pre := fun _ => True, post := fun x y => y.1 = (decD x.1).1 ∧ y.2.1 = (decD x.1).2 }
def c_text_Valid : Con := { args := [.dat .str], res := [.dat I64], pre := fun _ => True, post := fun x y => y.1 = vld x.1 0 }
def c_r05_Valid : Con := { args := [.dat .str], res := [.dat I64], pre := fun x => x.1.length ≤ 1000000000, post := fun x y => y.1 = vld x.1 0 }
def c_r05_more : Con := { args := [.dat .str, .dat I64, .dat I64], res := [.dat .bool], pre := fun x => x.1.length ≤ 1000000000 ∧ 0 ≤ x.2.1 ∧ x.2.1 ≤ 1000000000 ∧ 0 ≤ x.2.2.1 ∧ x.2.2.1 ≤ 3, post := fun x y => y.1 = moreD x.1 x.2.1.toNat x.2.2.1.toNat }
def c_r05_character : Con := { args := [.dat .str, .dat I64], res := [.dat I64], pre := fun x => x.1.length ≤ 1000000000 ∧ 0 ≤ x.2.1 ∧ x.2.1 < x.1.length, post := fun x y => y.1 = chw x.1 x.2.1.toNat }
def c_text_small : Con := { args := [.dat U8], res := [.dat U8], pre := fun _ => True, post := fun x y => y.1 = smallD x.1 }
def c_text_prints : Con := { args := [.dat U8], res := [.dat .bool], pre := fun _ => True, post := fun x y => y.1 = printsD x.1 }
def c_r05_Prints : Con := { args := [.dat U8], res := [.dat .bool], pre := fun _ => True, post := fun x y => y.1 = printsD x.1 }
def c_r05_Words : Con := { args := [.dat .str], res := [.own 9 .str], pre := fun x => x.1.length ≤ 100000000, post := fun x y => y.1 = wordsD x.1 }
def c_text_Fold : Con := { args := [.dat .str], res := [.dat .str], pre := fun x => x.1.length ≤ 100000000, post := fun x y => y.1 = foldD x.1 }
def c_r05_Fold : Con := { args := [.dat .str], res := [.dat .str], pre := fun x => x.1.length ≤ 100000000, post := fun x y => y.1 = foldD x.1 }
def c_text_Same : Con := { args := [.dat .str, .dat .str], res := [.dat .bool], pre := fun x => x.1.length ≤ 100000000 ∧ x.2.1.length ≤ 100000000, post := fun x y => y.1 = decide (foldD x.1 = foldD x.2.1) }
def c_text_May : Con := { args := [.dat I64, .dat .str], res := [.dat .bool], pre := fun _ => True, post := fun x y => y.1 = mayD x.1 x.2.1 }
def c_r05_May : Con := { args := [.dat I64, .dat .str], res := [.dat .bool], pre := fun x => x.2.1.length ≤ 1000000000, post := fun x y => y.1 = mayD x.1 x.2.1 }
def c_text_Kind : Con := { args := [.dat .str], res := [.dat I64, .dat I64], pre := fun _ => True, post := fun x y => y.1 = (kindD x.1).1 ∧ y.2.1 = (kindD x.1).2 }
def c_r05_Kind : Con := { args := [.dat .str], res := [.dat I64, .dat I64], pre := fun x => x.1.length ≤ 1000000000, post := fun x y => y.1 = (kindD x.1).1 ∧ y.2.1 = (kindD x.1).2 }

end Go.Proofs.YtcaekpbmmbfeiaaDoor
