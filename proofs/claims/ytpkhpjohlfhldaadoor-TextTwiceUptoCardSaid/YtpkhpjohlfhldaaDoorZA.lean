/- Contracts. -/
import Derived.Test.YtpkhpjohlfhldaaDoorZVcGl
import Derived.Lib.DecodeNEq
import Derived.Lib.Bytealg
import Derived.Test.YtpkhpjohlfhldaaDoorZTy
set_option linter.unusedVariables false
set_option linter.unusedSimpArgs false
namespace Go.Proofs.YtpkhpjohlfhldaaDoor
open Go Go.Vc Go.Proofs

abbrev U8 : Kd := .int .u8
abbrev I32 : Kd := .int .i32
abbrev I64 : Kd := .int .i64
abbrev BY : Kd := .sl U8
def accTab : List (Int × Int) := (List.range 16).map fun i => ((Lib.accLo i : Int), (Lib.accHi i : Int))
def GL : Gl := [(0, .arr U8 Lib.firstTab), (1, .arr (.pair U8 U8) accTab)]

/-- The first character. -/
def decD (l : List Int) : Int × Int := if l = [] then (65533, 0) else ((udec l 0).1, (udec l 0).2)
/-- How many bytes the character at a place has; 0: there is none. -/
def chw (l : List Int) (i : Nat) : Nat := if (udec l i).1 = 65533 ∧ (udec l i).2 = 1 then 0 else (udec l i).2
theorem chw_dec {l : List Int} {i : Nat} (h : i < l.length ∧ chw l i ≠ 0) : l.length - (i + chw l i) < l.length - i := by omega
/-- Where the characters end. -/
def vld (l : List Int) (i : Nat) : Nat := if h : i < l.length ∧ chw l i ≠ 0 then vld l (i + chw l i) else i
termination_by l.length - i
decreasing_by exact chw_dec h
/-- The first place of a byte. -/
def idxB : List Int → Int → Int
  | [], _ => -1
  | a :: l, c => if a = c then 0 else if idxB l c < 0 then -1 else idxB l c + 1
def smallD (c : Int) : Int := if 65 ≤ c ∧ c ≤ 90 then c + 32 else c
def printsD (c : Int) : Bool := decide ((97 ≤ c ∧ c ≤ 122) ∨ (65 ≤ c ∧ c ≤ 90) ∨ (48 ≤ c ∧ c ≤ 57) ∨ c ∈ [32, 39, 40, 41, 43, 44, 45, 46, 47, 58, 61, 63])
/-- The words of a text, some letters of the first one being read. -/
def wordsA (cur : List Int) : List Int → List (List Int)
  | [] => if cur = [] then [] else [cur]
  | c :: l => if c = 32 then (if cur = [] then [] else [cur]) ++ wordsA [] l else wordsA (cur ++ [c]) l
def wordsD (l : List Int) : List (List Int) := wordsA [] l
def joinF : List Int → List (List Int) → List Int
  | b, [] => b
  | b, w :: ws => joinF ((b ++ if b = [] then [] else [32]) ++ w.map smallD) ws
def foldD (l : List Int) : List Int := joinF [] (wordsD l)
def mayD (k : Int) (l : List Int) : Bool :=
  if 4096 < l.length then false else if k = 12 then decide (vld l 0 = l.length) else if k = 19 then l.all printsD else if k = 22 then l.all (fun c => decide (c < 128)) else false
def kindD (l : List Int) : Int × Int := if mayD 19 l then (19, 0) else if mayD 12 l then (12, 0) else (0, 50)

/-- Do so many bytes at a place go on with a character? -/
def moreD (l : List Int) (i n : Nat) : Bool := (List.range n).all fun j => decide (i + j < l.length ∧ 128 ≤ l.getD (i + j) 0 ∧ l.getD (i + j) 0 ≤ 191)

def c22 : Con := { args := [.dat .str], res := [.dat I32, .dat I64], pre := fun _ => True, post := fun x y => y.1 = (decD x.1).1 ∧ y.2.1 = (decD x.1).2 }
def c30 : Con := { args := [.dat .str], res := [.dat I32, .dat I64], pre := fun _ => True, post := fun x y => y.1 = (decD x.1).1 ∧ y.2.1 = (decD x.1).2 }
def c10 : Con := { args := [.dat .str], res := [.dat I64], pre := fun _ => True, post := fun x y => y.1 = vld x.1 0 }
def c11 : Con := { args := [.dat .str], res := [.dat I64], pre := fun x => x.1.length ≤ 1000000000, post := fun x y => y.1 = vld x.1 0 }
def c31 : Con := { args := [.dat .str, .dat I64, .dat I64], res := [.dat .bool], pre := fun x => x.1.length ≤ 1000000000 ∧ 0 ≤ x.2.1 ∧ x.2.1 ≤ 1000000000 ∧ 0 ≤ x.2.2.1 ∧ x.2.2.1 ≤ 3, post := fun x y => y.1 = moreD x.1 x.2.1.toNat x.2.2.1.toNat }
def c23 : Con := { args := [.dat .str, .dat I64], res := [.dat I64], pre := fun x => x.1.length ≤ 1000000000 ∧ 0 ≤ x.2.1 ∧ x.2.1 < x.1.length, post := fun x y => y.1 = chw x.1 x.2.1.toNat }
def c33 : Con := { args := [Kd.str, U8].map .dat, res := [.dat I64], pre := fun _ => True, post := fun x y => y.1 = idxB x.1 x.2.1 }
def c32 : Con := { args := [.dat .str, .dat U8], res := [.dat I64], pre := fun _ => True, post := fun x y => y.1 = idxB x.1 x.2.1 }
def c26 : Con := { args := [.dat .str, .dat U8], res := [.dat I64], pre := fun _ => True, post := fun x y => y.1 = idxB x.1 x.2.1 }
def c27 : Con := { args := [.dat U8], res := [.dat U8], pre := fun _ => True, post := fun x y => y.1 = smallD x.1 }
def c28 : Con := { args := [.dat U8], res := [.dat .bool], pre := fun _ => True, post := fun x y => y.1 = printsD x.1 }
def c29 : Con := { args := [.dat U8], res := [.dat .bool], pre := fun _ => True, post := fun x y => y.1 = printsD x.1 }
def c14 : Con := { args := [.dat .str], res := [.own 9 .str], pre := fun x => x.1.length ≤ 100000000, post := fun x y => y.1 = wordsD x.1 }
def c15 : Con := { args := [.dat .str], res := [.dat .str], pre := fun x => x.1.length ≤ 100000000, post := fun x y => y.1 = foldD x.1 }
def c16 : Con := { args := [.dat .str], res := [.dat .str], pre := fun x => x.1.length ≤ 100000000, post := fun x y => y.1 = foldD x.1 }
def c17 : Con := { args := [.dat .str, .dat .str], res := [.dat .bool], pre := fun x => x.1.length ≤ 100000000 ∧ x.2.1.length ≤ 100000000, post := fun x y => y.1 = decide (foldD x.1 = foldD x.2.1) }
def c20 : Con := { args := [.dat I64, .dat .str], res := [.dat .bool], pre := fun _ => True, post := fun x y => y.1 = mayD x.1 x.2.1 }
def c21 : Con := { args := [.dat I64, .dat .str], res := [.dat .bool], pre := fun x => x.2.1.length ≤ 1000000000, post := fun x y => y.1 = mayD x.1 x.2.1 }
def c18 : Con := { args := [.dat .str], res := [.dat I64, .dat I64], pre := fun _ => True, post := fun x y => y.1 = (kindD x.1).1 ∧ y.2.1 = (kindD x.1).2 }
def c19 : Con := { args := [.dat .str], res := [.dat I64, .dat I64], pre := fun x => x.1.length ≤ 1000000000, post := fun x y => y.1 = (kindD x.1).1 ∧ y.2.1 = (kindD x.1).2 }
def c24 : Con := { args := [], res := [.dat .bool], pre := fun _ => True, post := fun _ y => y.1 = true }
def c12 : Con := { args := [], res := [.dat .bool], pre := fun _ => True, post := fun _ y => y.1 = true }
def c3 : Con := { args := [.dat .str], res := [.dat .bool], pre := fun x => ABulk [.dat .str] x ≤ 1048576, post := fun _ y => y.1 = true }
def c4 : Con := { args := [.dat .str, .dat I64], res := [.dat .bool], pre := fun x => ABulk [.dat .str, .dat I64] x ≤ 1048576, post := fun _ y => y.1 = true }
def c5 : Con := { args := [.dat .str, .dat .str], res := [.dat .bool], pre := fun x => ABulk [.dat .str, .dat .str] x ≤ 1048576, post := fun _ y => y.1 = true }
def c6 : Con := { args := [.dat .str, .dat .str, .dat .str], res := [.dat .bool], pre := fun x => ABulk [.dat .str, .dat .str, .dat .str] x ≤ 1048576, post := fun _ y => y.1 = true }
def c7 : Con := { args := [.dat .str, .dat .str, .dat I64], res := [.dat .bool], pre := fun x => ABulk [.dat .str, .dat .str, .dat I64] x ≤ 1048576, post := fun _ y => y.1 = true }
def c8 : Con := { args := [.dat I64, .dat .str], res := [.dat .bool], pre := fun x => ABulk [.dat I64, .dat .str] x ≤ 1048576, post := fun _ y => y.1 = true }
def c9 : Con := { args := [.dat .str, .dat .str], res := [.dat .bool], pre := fun x => ABulk [.dat .str, .dat .str] x ≤ 1048576, post := fun _ y => y.1 = true }
end Go.Proofs.YtpkhpjohlfhldaaDoor
