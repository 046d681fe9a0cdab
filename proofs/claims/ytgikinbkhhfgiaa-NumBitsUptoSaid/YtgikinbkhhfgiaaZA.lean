/- Contracts. -/
import Derived.Test.YtgikinbkhhfgiaaZVcLaw
import Derived.Test.YtgikinbkhhfgiaaZTy
set_option linter.unusedVariables false
set_option linter.unusedSimpArgs false
namespace Go.Proofs.Ytgikinbkhhfgiaa
open Go Go.Vc Go.Proofs

def GL : Gl := []
abbrev U8 : Kd := .int .u8
abbrev U16 : Kd := .int .u16
abbrev I64 : Kd := .int .i64
abbrev BY : Kd := .sl U8

def c20 : Con := { args := [.dat BY], res := [.own 5 U8], pre := fun x => x.1.length ≤ 1000000000, post := fun x y => y.1 = x.1 }
def c6 : Con := { args := [.own 5 U8, .dat BY, .dat BY], res := [.dat .bool], pre := fun x => x.1.length ≤ 1000000000, post := fun x y => x.1 = x.2.2.1 → x.2.1 = x.2.2.1 → y.1 = true }
def c9 : Con := { args := [], res := [.dat .bool], pre := fun _ => True, post := fun _ y => y.1 = true }
def BoolD (b : Bool) : List Int := if b then [255] else [0]
def c12 : Con := { args := [.dat .bool], res := [.own 5 U8], pre := fun _ => True, post := fun x y => y.1 = BoolD x.1 }
def c13 : Con := { args := [.dat .bool], res := [.own 5 U8], pre := fun _ => True, post := fun x y => y.1 = BoolD x.1 }
/-- The n lowest bytes of x, the highest first. -/
def low (x : Int) : Nat → List Int
  | 0 => []
  | n + 1 => (x / 256 ^ n) % 256 :: low x n
/-- How many bytes an integer takes. -/
def wide (x : Int) : Nat → Nat → Nat
  | _, 0 => 8
  | n, k + 1 => if -(2 ^ (8 * n - 1) : Int) ≤ x ∧ x < 2 ^ (8 * n - 1) then n else wide x (n + 1) k
def IntD (x : Int) : List Int := low x (wide x 1 7)
def c21 : Con := { args := [.dat I64, .dat I64], res := [.own 5 U8], pre := fun x => 0 ≤ x.2.1 ∧ x.2.1 ≤ 8, post := fun x y => y.1 = low x.1 x.2.1.toNat }
def c10 : Con := { args := [.dat I64], res := [.own 5 U8], pre := fun _ => True, post := fun x y => y.1 = IntD x.1 }
def c11 : Con := { args := [.dat I64], res := [.own 5 U8], pre := fun _ => True, post := fun x y => y.1 = IntD x.1 }
def c4 : Con := { args := [.dat I64], res := [.dat .bool], pre := fun x => ABulk [.dat I64] x ≤ 1048576, post := fun _ y => y.1 = true }
/-- The bits of a byte, the other way round; the first n of them. -/
def prev (b : Nat) : Nat → Nat
  | 0 => 0
  | n + 1 => prev b n + (if (b / 2 ^ n) % 2 = 1 then 128 / 2 ^ n else 0)
/-- How many bits a number takes, of its lowest n. -/
def lastb (x : Nat) : Nat → Nat
  | 0 => 0
  | n + 1 => if (x / 2 ^ n) % 2 = 1 then n + 1 else lastb x n
def FlagsD (x : Nat) : List Int :=
  if x = 0 then [0] else if x < 256 then [8 - (lastb x 8 : Int), (prev x 8 : Int)] else [8 - (lastb (x / 256) 8 : Int), (prev (x % 256) 8 : Int), (prev (x / 256) 8 : Int)]
def c18 : Con := { args := [.dat U16], res := [.dat U16], pre := fun _ => True, post := fun x y => y.1 = (prev (x.1.toNat / 256) 8 : Int) + 256 * (prev (x.1.toNat % 256) 8 : Int) }
def c19 : Con := { args := [.dat U16], res := [.dat I64], pre := fun _ => True, post := fun x y => y.1 = if x.1 < 256 then (lastb x.1.toNat 8 : Int) else 8 + (lastb (x.1.toNat / 256) 8 : Int) }
def c7 : Con := { args := [.dat U16], res := [.own 5 U8], pre := fun _ => True, post := fun x y => y.1 = FlagsD x.1.toNat }
def c8 : Con := { args := [.dat U16], res := [.own 5 U8], pre := fun _ => True, post := fun x y => y.1 = FlagsD x.1.toNat }
def c3 : Con := { args := [.dat U16], res := [.dat .bool], pre := fun x => ABulk [.dat U16] x ≤ 1048576, post := fun _ y => y.1 = true }
/-- Whether so many bits may be left unused. -/
def FitsD (x : List Int) (n : Int) : Bool := if n < 0 ∨ 7 < n then false else if x = [] then decide (n = 0) else decide (x.getLastD 0 % 2 ^ n.toNat = 0)
def BitsD (x : List Int) (n : Int) : List Int × Int := if FitsD x n then (n :: x, 0) else ([], 2)
def c22 : Con := { args := [.dat BY, .dat I64], res := [.dat .bool], pre := fun _ => True, post := fun x y => y.1 = FitsD x.1 x.2.1 }
def c24 : Con := { args := [.dat BY, .dat I64], res := [.dat .bool], pre := fun _ => True, post := fun x y => y.1 = FitsD x.1 x.2.1 }
def c23 : Con := { args := [.dat (.sl BY)], res := [.own 5 U8], pre := fun x => x.1.length ≤ 100 ∧ ∀ l ∈ x.1, l.length ≤ 10000000, post := fun x y => y.1 = x.1.flatten }
def c15 : Con := { args := [.dat BY, .dat I64], res := [.own 5 U8, .dat I64], pre := fun x => x.1.length ≤ 1048576, post := fun x y => (y.1, y.2.1) = BitsD x.1 x.2.1 }
def c16 : Con := { args := [.dat BY, .dat I64], res := [.own 5 U8, .dat I64], pre := fun x => x.1.length ≤ 1048576, post := fun x y => (y.1, y.2.1) = BitsD x.1 x.2.1 }
def c5 : Con := { args := [.dat BY, .dat I64], res := [.dat .bool], pre := fun x => ABulk [.dat BY, .dat I64] x ≤ 1048576, post := fun _ y => y.1 = true }
end Go.Proofs.Ytgikinbkhhfgiaa
