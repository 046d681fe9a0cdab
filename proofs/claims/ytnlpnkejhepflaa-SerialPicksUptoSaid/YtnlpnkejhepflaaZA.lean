/- Contracts. -/
import Derived.Test.YtnlpnkejhepflaaZVcLaw
import Derived.Test.YtnlpnkejhepflaaZTy
namespace Go.Proofs.Ytnlpnkejhepflaa
open Go Go.Vc Go.Proofs

abbrev U8 : Kd := .int .u8
abbrev I64 : Kd := .int .i64
abbrev BY : Kd := .sl U8
abbrev BB : Kd := .sl BY

def c21 : Con := { args := [.dat BY], res := [.own 5 U8], pre := fun x => x.1.length ≤ 1000000000, post := fun x y => y.1 = x.1 }
def OfD (x : List Int) : List Int × Int :=
  if x.length < 16 then ([], 270) else ((x.take 16).set 0 (x.getD 0 0 % 64 + 64), 0)
def c7 : Con := { args := [.dat BY], res := [.own 5 U8, .dat I64], pre := fun x => x.1.length ≤ 1000000000, post := fun x y => (y.1, y.2.1) = OfD x.1 }
def c8 : Con := { args := [.dat BY], res := [.own 5 U8, .dat I64], pre := fun x => x.1.length ≤ 1000000000, post := fun x y => (y.1, y.2.1) = OfD x.1 }
def c22 : Con := { args := [], res := [.dat .bool], pre := fun _ => True, post := fun _ y => y.1 = true }
def c9 : Con := { args := [], res := [.dat .bool], pre := fun _ => True, post := fun _ y => y.1 = true }
def c3 : Con := { args := [.dat BY], res := [.dat .bool], pre := fun x => ABulk [.dat BY] x ≤ 1048576, post := fun _ y => y.1 = true }

def c24 : Con := { args := [.dat BB, .dat BY], res := [.dat .bool], pre := fun _ => True, post := fun x y => y.1 = decide (x.2.1 ∈ x.1) }
def small (x : List (List Int)) : Prop := x.length ≤ 1048576 ∧ ∀ l ∈ x, l.length ≤ 1048576
def c10 : Con := { args := [.dat BB], res := [.own 22 BY], pre := fun x => small x.1, post := fun x y => y.1 = x.1 }
def c14 : Con := { args := [.dat BB, .dat BB], res := [.dat .bool], pre := fun x => x.1 = x.2.1, post := fun _ y => y.1 = true }
def PickD (used : List (List Int)) : List (List Int) → Nat → List Int × Int × Int
  | [], i => if i = 8 then ([], 8, 271) else ([], i, 272)
  | d :: ds, i => if i = 8 then ([], 8, 271) else if (OfD d).2 ≠ 0 then ([], i, (OfD d).2) else if (OfD d).1 ∈ used then PickD used ds (i + 1) else ((OfD d).1, i, 0)
def c13 : Con := { args := [.dat BB, .dat BB], res := [.dat BY, .dat I64, .dat I64], pre := fun x => small x.2.1, post := fun x y => (y.1, y.2.1, y.2.2.1) = PickD x.1 x.2.1 0 }
def c4 : Con := { args := [.dat BB, .dat BB], res := [.dat .bool], pre := fun x => ABulk [.dat BB, .dat BB] x ≤ 1048576, post := fun _ y => y.1 = true }
end Go.Proofs.Ytnlpnkejhepflaa
