/- Contracts. -/
import Derived.Test.YtkdffofjnjamlaaZVcLaw
import Derived.Test.YtkdffofjnjamlaaZTy
set_option linter.unusedVariables false
set_option linter.unusedSimpArgs false
namespace Go.Proofs.Ytkdffofjnjamlaa
open Go Go.Vc Go.Proofs

def GL : Gl := []
abbrev U8 : Kd := .int .u8
abbrev BY : Kd := .sl U8
abbrev I64 : Kd := .int .i64
abbrev II : Kd := .sl I64

def cmpI (a b : Int) : Int := if a < b then -1 else if b < a then 1 else 0
def CmpD : List Int → List Int → Int
  | [], [] => 0
  | [], _ :: _ => -1
  | _ :: _, [] => 1
  | a :: l, b :: r => if cmpI a b = 0 then CmpD l r else cmpI a b
def BegD (a b : List Int) : Bool := decide (b.length ≤ a.length) && decide (a.take b.length = b)
def c9 : Con := { args := [], res := [.dat .bool], pre := fun _ => True, post := fun _ y => y.1 = true }
def c30 : Con := { args := [.dat I64, .dat I64], res := [.dat I64], pre := fun _ => True, post := fun x y => y.1 = cmpI x.1 x.2.1 }
def c27 : Con := { args := [.dat II, .dat II], res := [.dat I64], pre := fun _ => True, post := fun x y => y.1 = CmpD x.1 x.2.1 }
def c14 : Con := { args := [.dat II, .dat II], res := [.dat I64], pre := fun _ => True, post := fun x y => y.1 = CmpD x.1 x.2.1 }
def c15 : Con := { args := [.dat II, .dat II], res := [.dat I64], pre := fun _ => True, post := fun x y => y.1 = CmpD x.1 x.2.1 }
def c28 : Con := { args := [.dat II, .dat II], res := [.dat .bool], pre := fun _ => True, post := fun x y => y.1 = decide (x.1 = x.2.1) }
def c16 : Con := { args := [.dat II, .dat II], res := [.dat .bool], pre := fun _ => True, post := fun x y => y.1 = BegD x.1 x.2.1 }
def c17 : Con := { args := [.dat II, .dat II], res := [.dat .bool], pre := fun _ => True, post := fun x y => y.1 = BegD x.1 x.2.1 }
def c12 : Con := { args := [.dat II], res := [.dat .bool], pre := fun x => x.1 = [1, 2], post := fun _ y => y.1 = true }
def c23 : Con := { args := [.dat II, .dat II], res := [.dat .bool], pre := fun _ => True, post := fun x y => x.1 = x.2.1 → y.1 = true }
def c5 : Con := { args := [.dat II, .dat II], res := [.dat .bool], pre := fun x => ABulk [.dat II, .dat II] x ≤ 1048576, post := fun _ y => y.1 = true }
/-- One number, read from a place on: the number, where the next begins, what is wrong. -/
def nextR : List Int → Int → Int → Int × Int × Int
  | [], _, _ => (0, 0, 10)
  | b :: r, v, p => if 2147483647 < v * 128 + b % 128 then (0, 0, 31) else if b < 128 then (v * 128 + b % 128, p + 1, 0) else nextR r (v * 128 + b % 128) (p + 1)
def NextD (l : List Int) (i : Int) : Int × Int × Int := if (l.drop i.toNat).headD 0 = 128 then (0, 0, 30) else nextR (l.drop i.toNat) 0 i
def SplitD (v : Int) : List Int := if v < 40 then [0, v] else if v < 80 then [1, v - 40] else [2, v - 80]
def decR (l : List Int) : Nat → List Int → Int → List Int × Int
  | 0, acc, _ => (acc, 0)
  | n + 1, acc, i => if i < l.length then (if acc.length = 20 then ([], 32) else if (NextD l i).2.2 ≠ 0 then ([], (NextD l i).2.2) else decR l n (acc ++ [(NextD l i).1]) (NextD l i).2.1) else (acc, 0)
def DecD (l : List Int) : List Int × Int := if (NextD l 0).2.2 ≠ 0 then ([], (NextD l 0).2.2) else decR l l.length (SplitD (NextD l 0).1) (NextD l 0).2.1
def c20 : Con := { args := [.dat BY, .dat I64], res := [.dat I64, .dat I64], pre := fun x => 0 ≤ x.2.1, post := fun x y => NextD x.1 x.2.1 = (y.1, y.2.1, 0), pan := true, pt := 43, pk := .pair I64 .unit, ppost := fun x e => (NextD x.1 x.2.1).2.2 = e.1 ∧ e.1 ≠ 0 }
def c22 : Con := { args := [.dat BY, .dat I64], res := [.dat I64, .dat I64, .dat I64], pre := fun x => 0 ≤ x.2.1, post := fun x y => NextD x.1 x.2.1 = (y.1, y.2.1, y.2.2.1) }
def c21 : Con := { args := [.dat I64], res := [.own 3 I64], pre := fun x => 0 ≤ x.1, post := fun x y => y.1 = SplitD x.1 }
def c6 : Con := { args := [.dat BY], res := [.own 3 I64, .dat I64], pre := fun _ => True, post := fun x y => (y.1, y.2.1) = DecD x.1 }
def c7 : Con := { args := [.dat BY], res := [.own 3 I64, .dat I64], pre := fun _ => True, post := fun x y => (y.1, y.2.1) = DecD x.1 }
def c8 : Con := { args := [.own 3 I64, .dat II, .dat II], res := [.dat .bool], pre := fun x => x.1.length ≤ 1000, post := fun x y => x.1 = x.2.2.1 → x.2.1 = x.2.2.1 → y.1 = true }
def c3 : Con := { args := [.dat BY], res := [.dat .bool], pre := fun x => ABulk [.dat BY] x ≤ 1048576, post := fun _ y => y.1 = true }
def StepD (l : List Int) (i : Int) : Int × Int × Bool := if (NextD l i).2.2 = 0 then ((NextD l i).1, (NextD l i).2.1, true) else (0, 0, false)
def c24 : Con := { args := [.dat BY], res := [.own 5 U8], pre := fun x => x.1.length ≤ 1000000000, post := fun x y => y.1 = x.1 }
def c26 : Con := { args := [.dat BY, .dat I64], res := [.dat I64, .dat I64, .dat .bool], pre := fun x => 0 ≤ x.2.1, post := fun x y => (y.1, y.2.1, y.2.2.1) = StepD x.1 x.2.1 }
/-- Where the numbers begin, and what they are. -/
def arcR (l : List Int) : Nat → Int → List (Int × Int)
  | 0, _ => []
  | n + 1, i => if i < l.length then (if (NextD l i).2.2 ≠ 0 then [] else (i, (NextD l i).1) :: arcR l n (NextD l i).2.1) else []
def ArcsD (l : List Int) : List (Int × Int) := arcR l l.length 0
def c10 : Con := { args := [.dat BY], res := [.own 3 I64, .own 3 I64], pre := fun x => x.1.length ≤ 1048576, post := fun x y => (y.1, y.2.1) = ((ArcsD x.1).map (·.1), (ArcsD x.1).map (·.2)) }
def c4 : Con := { args := [.dat BY, .dat I64], res := [.dat .bool], pre := fun x => ABulk [.dat BY, .dat I64] x ≤ 1048576, post := fun _ y => y.1 = true }
end Go.Proofs.Ytkdffofjnjamlaa
