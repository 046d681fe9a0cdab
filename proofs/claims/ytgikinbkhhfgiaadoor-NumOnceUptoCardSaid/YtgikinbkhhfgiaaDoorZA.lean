/- Contracts. -/
import Derived.Test.YtgikinbkhhfgiaaDoorZVcLaw
import Derived.Test.YtgikinbkhhfgiaaDoorZTy
set_option linter.unusedVariables false
set_option linter.unusedSimpArgs false
namespace Go.Proofs.YtgikinbkhhfgiaaDoor
open Go Go.Vc Go.Proofs

def GL : Gl := []
abbrev U8 : Kd := .int .u8
abbrev U16 : Kd := .int .u16
abbrev I64 : Kd := .int .i64
abbrev BY : Kd := .sl U8

def BoolD (b : Bool) : List Int := if b then [255] else [0]
/-- The n lowest bytes of x, the highest first. -/
def low (x : Int) : Nat → List Int
  | 0 => []
  | n + 1 => (x / 256 ^ n) % 256 :: low x n
/-- How many bytes an integer takes. -/
def wide (x : Int) : Nat → Nat → Nat
  | _, 0 => 8
  | n, k + 1 => if -(2 ^ (8 * n - 1) : Int) ≤ x ∧ x < 2 ^ (8 * n - 1) then n else wide x (n + 1) k
def IntD (x : Int) : List Int := low x (wide x 1 7)
/-- The bits of a byte, the other way round; the first n of them. -/
def prev (b : Nat) : Nat → Nat
  | 0 => 0
  | n + 1 => prev b n + (if (b / 2 ^ n) % 2 = 1 then 128 / 2 ^ n else 0)
/-- How many bits a number takes, of its lowest n. -/
def lastb (x : Nat) : Nat → Nat
  | 0 => 0
  | n + 1 => if (x / 2 ^ n) % 2 = 1 then n + 1 else lastb x n
def FlagsD (x : Nat) : List Int :=
  if x = 0 then [0] else if x < 256 then [8 - (lastb x 8 : Int), (prev x 8 : Int)] else [8 - (lastb (x / 256) 8 : Int), (prev (x % 256) 8 : Int), (prev (x / 256) 8 : Int)]
/-- Whether so many bits may be left unused. -/
def FitsD (x : List Int) (n : Int) : Bool := if n < 0 ∨ 7 < n then false else if x = [] then decide (n = 0) else decide (x.getLastD 0 % 2 ^ n.toNat = 0)
def BitsD (x : List Int) (n : Int) : List Int × Int := if FitsD x n then (n :: x, 0) else ([], 2)

/-- The leading zeros are left out. -/
def trimD (l : List Int) : List Int := l.dropWhile fun b => decide (b = 0)
def NatD (l : List Int) : List Int := if 128 ≤ (trimD l).headD 128 then 0 :: trimD l else trimD l
/-- Whether a number is written as short as can be. -/
def ShortD : List Int → Bool
  | [] => false
  | [_] => true
  | a :: b :: _ => !(decide (a = 0) && decide (b < 128) || decide (a = 255) && decide (128 ≤ b))
/-- The number, the first byte's highest bit its sign. -/
def valD (l : List Int) : Int := l.foldl (fun v b => v * 256 + b) (if 128 ≤ l.headD 0 then -1 else 0)
def ToIntD (l : List Int) : Int × Int := if ShortD l = false then (0, 20) else if 8 < l.length then (0, 21) else (valD l, 0)
def ToBoolD (l : List Int) : Bool × Int := if l = [255] then (true, 0) else if l = [0] then (false, 0) else (false, 20)
def ToNatD (l : List Int) : List Int × Int := if ShortD l = false then ([], 20) else if 128 ≤ l.headD 0 then ([], 22) else (trimD l, 0)
def ToBitsD : List Int → List Int × Int × Int
  | [] => ([], 0, 20)
  | a :: r => if FitsD r a then (r, a, 0) else ([], 0, 20)
def flagsD : List Int → Int
  | [] => 0
  | [a] => prev a.toNat 8
  | a :: b :: _ => prev a.toNat 8 + 256 * prev b.toNat 8
def ToFlagsD (l : List Int) : Int × Int :=
  if (ToBitsD l).2.2 ≠ 0 then (0, (ToBitsD l).2.2) else
  if (ToBitsD l).1 ≠ [] ∧ ((ToBitsD l).1.getLastD 0 / 2 ^ (ToBitsD l).2.1.toNat) % 2 = 0 then (0, 20) else
  if 2 < (ToBitsD l).1.length then (0, 21) else (flagsD (ToBitsD l).1, 0)
abbrev LIM : Nat := 2000000
def c29 : Con := { args := [.dat BY], res := [.own 5 U8], pre := fun x => x.1.length ≤ 1000000000, post := fun x y => y.1 = x.1 }
def c8 : Con := { args := [.own 5 U8, .dat BY, .dat BY], res := [.dat .bool], pre := fun x => x.1.length ≤ 1000000000, post := fun x y => x.1 = x.2.2.1 → x.2.1 = x.2.2.1 → y.1 = true }
def c12 : Con := { args := [], res := [.dat .bool], pre := fun _ => True, post := fun _ y => y.1 = true }
def c26 : Con := { args := [.dat .bool], res := [.own 5 U8], pre := fun _ => True, post := fun x y => y.1 = BoolD x.1 }
def c33 : Con := { args := [.dat .bool], res := [.own 5 U8], pre := fun _ => True, post := fun x y => y.1 = BoolD x.1 }
def c28 : Con := { args := [.dat (.sl BY)], res := [.own 5 U8], pre := fun x => x.1.length ≤ 100 ∧ ∀ l ∈ x.1, l.length ≤ 10000000, post := fun x y => y.1 = x.1.flatten }
def c38 : Con := { args := [.dat BY, .dat U8], res := [.dat BY], pre := fun _ => True, post := fun x y => y.1 = x.1.dropWhile fun b => decide (b = x.2.1) }
def c27 : Con := { args := [.dat BY, .dat .str], res := [.dat BY], pre := fun x => x.2.1 = [0], post := fun x y => y.1 = trimD x.1 }
def c30 : Con := { args := [.dat BY], res := [.own 5 U8], pre := fun x => x.1.length ≤ LIM, post := fun x y => y.1 = trimD x.1 }
def c9 : Con := { args := [.dat BY], res := [.own 5 U8], pre := fun x => x.1.length ≤ LIM, post := fun x y => y.1 = NatD x.1 }
def c10 : Con := { args := [.dat BY], res := [.own 5 U8], pre := fun x => x.1.length ≤ LIM, post := fun x y => y.1 = NatD x.1 }
def c3 : Con := { args := [.dat BY], res := [.dat .bool], pre := fun x => ABulk [.dat BY] x ≤ 1048576, post := fun _ y => y.1 = true }
def c31 : Con := { args := [.dat BY], res := [.dat .bool], pre := fun _ => True, post := fun x y => y.1 = ShortD x.1 }
def c32 : Con := { args := [.dat BY], res := [.dat .bool], pre := fun _ => True, post := fun x y => y.1 = ShortD x.1 }
def c13 : Con := { args := [.dat BY], res := [.dat I64, .dat I64], pre := fun _ => True, post := fun x y => (y.1, y.2.1) = ToIntD x.1 }
def c14 : Con := { args := [.dat BY], res := [.dat I64, .dat I64], pre := fun _ => True, post := fun x y => (y.1, y.2.1) = ToIntD x.1 }
def c15 : Con := { args := [.dat BY], res := [.dat .bool, .dat I64], pre := fun _ => True, post := fun x y => (y.1, y.2.1) = ToBoolD x.1 }
def c16 : Con := { args := [.dat BY], res := [.dat .bool, .dat I64], pre := fun _ => True, post := fun x y => (y.1, y.2.1) = ToBoolD x.1 }
def c17 : Con := { args := [.dat BY], res := [.own 5 U8, .dat I64], pre := fun x => x.1.length ≤ LIM, post := fun x y => (y.1, y.2.1) = ToNatD x.1 }
def c18 : Con := { args := [.dat BY], res := [.own 5 U8, .dat I64], pre := fun x => x.1.length ≤ LIM, post := fun x y => (y.1, y.2.1) = ToNatD x.1 }
def c34 : Con := { args := [.dat BY, .dat I64], res := [.dat .bool], pre := fun _ => True, post := fun x y => y.1 = FitsD x.1 x.2.1 }
def c35 : Con := { args := [.dat BY, .dat I64], res := [.dat .bool], pre := fun _ => True, post := fun x y => y.1 = FitsD x.1 x.2.1 }
def c19 : Con := { args := [.dat BY], res := [.own 5 U8, .dat I64, .dat I64], pre := fun x => x.1.length ≤ LIM, post := fun x y => (y.1, y.2.1, y.2.2.1) = ToBitsD x.1 }
def c20 : Con := { args := [.dat BY], res := [.own 5 U8, .dat I64, .dat I64], pre := fun x => x.1.length ≤ LIM, post := fun x y => (y.1, y.2.1, y.2.2.1) = ToBitsD x.1 }
def c36 : Con := { args := [.dat U16], res := [.dat U16], pre := fun _ => True, post := fun x y => y.1 = (prev (x.1.toNat / 256) 8 : Int) + 256 * (prev (x.1.toNat % 256) 8 : Int) }
def c37 : Con := { args := [.dat U16], res := [.dat I64], pre := fun _ => True, post := fun x y => y.1 = if x.1 < 256 then (lastb x.1.toNat 8 : Int) else 8 + (lastb (x.1.toNat / 256) 8 : Int) }
def c21 : Con := { args := [.dat BY], res := [.dat U16, .dat I64], pre := fun x => x.1.length ≤ LIM, post := fun x y => (y.1, y.2.1) = ToFlagsD x.1 }
def c22 : Con := { args := [.dat BY], res := [.dat U16, .dat I64], pre := fun x => x.1.length ≤ LIM, post := fun x y => (y.1, y.2.1) = ToFlagsD x.1 }
def c4 : Con := { args := [.dat BY], res := [.dat .bool], pre := fun x => ABulk [.dat BY] x ≤ 1048576, post := fun _ y => y.1 = true }
def c23 : Con := { args := [.dat I64], res := [.own 5 U8], pre := fun _ => True, post := fun x y => y.1 = IntD x.1 }
def c24 : Con := { args := [.dat U16], res := [.own 5 U8], pre := fun _ => True, post := fun x y => y.1 = FlagsD x.1.toNat }
def c25 : Con := { args := [.dat BY, .dat I64], res := [.own 5 U8, .dat I64], pre := fun x => x.1.length ≤ 1048576, post := fun x y => (y.1, y.2.1) = BitsD x.1 x.2.1 }
def c5 : Con := { args := [.dat I64, .dat BY, .dat U16], res := [.dat .bool], pre := fun x => ABulk [.dat I64, .dat BY, .dat U16] x ≤ 1048576, post := fun _ y => y.1 = true }
def c6 : Con := { args := [.dat BY], res := [.dat .bool], pre := fun x => ABulk [.dat BY] x ≤ 1048576, post := fun _ y => y.1 = true }
end Go.Proofs.YtgikinbkhhfgiaaDoor
