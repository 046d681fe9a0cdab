/- Contracts. -/
import Derived.Test.YtkdffofjnjamlaaZVcLaw
import Derived.Test.YtkdffofjnjamlaaZTy
namespace Go.Proofs.Ytkdffofjnjamlaa
open Go Go.Vc Go.Proofs

abbrev I64 : Kd := .int .i64
abbrev II : Kd := .sl I64

def cmpI (a b : Int) : Int := if a < b then -1 else if b < a then 1 else 0
def CmpD : List Int → List Int → Int
  | [], [] => 0
  | [], _ :: _ => -1
  | _ :: _, [] => 1
  | a :: l, b :: r => if cmpI a b = 0 then CmpD l r else cmpI a b
def BegD (a b : List Int) : Bool := decide (b.length ≤ a.length) && decide (a.take b.length = b)
def c9 : Con := { args := [], res := [.dat .bool], pre := fun _ => True, post := fun _ y => y.1 = true }
def c30 : Con := { args := [.dat I64, .dat I64], res := [.dat I64], pre := fun _ => True, post := fun x y => y.1 = cmpI x.1 x.2.1 }
def c27 : Con := { args := [.dat II, .dat II], res := [.dat I64], pre := fun _ => True, post := fun x y => y.1 = CmpD x.1 x.2.1 }
def c14 : Con := { args := [.dat II, .dat II], res := [.dat I64], pre := fun _ => True, post := fun x y => y.1 = CmpD x.1 x.2.1 }
def c15 : Con := { args := [.dat II, .dat II], res := [.dat I64], pre := fun _ => True, post := fun x y => y.1 = CmpD x.1 x.2.1 }
def c28 : Con := { args := [.dat II, .dat II], res := [.dat .bool], pre := fun _ => True, post := fun x y => y.1 = decide (x.1 = x.2.1) }
def c16 : Con := { args := [.dat II, .dat II], res := [.dat .bool], pre := fun _ => True, post := fun x y => y.1 = BegD x.1 x.2.1 }
def c17 : Con := { args := [.dat II, .dat II], res := [.dat .bool], pre := fun _ => True, post := fun x y => y.1 = BegD x.1 x.2.1 }
def c12 : Con := { args := [.dat II], res := [.dat .bool], pre := fun x => x.1 = [1, 2], post := fun _ y => y.1 = true }
def c23 : Con := { args := [.dat II, .dat II], res := [.dat .bool], pre := fun _ => True, post := fun x y => x.1 = x.2.1 → y.1 = true }
def c5 : Con := { args := [.dat II, .dat II], res := [.dat .bool], pre := fun x => ABulk [.dat II, .dat II] x ≤ 1048576, post := fun _ y => y.1 = true }
end Go.Proofs.Ytkdffofjnjamlaa
