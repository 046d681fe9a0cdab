/- Contracts. -/
import Derived.Test.YtnlpnkejhepflaaVcLaw
import Derived.Test.YtnlpnkejhepflaaTy
namespace Go.Proofs.Ytnlpnkejhepflaa
open Go Go.Vc Go.Proofs

abbrev U8 : Kd := .int .u8
abbrev I64 : Kd := .int .i64
abbrev BY : Kd := .sl U8

def c21 : Con := { args := [.dat BY], res := [.own 5 U8], pre := fun x => x.1.length ≤ 1000000000, post := fun x y => y.1 = x.1 }
def OfD (x : List Int) : List Int × Int :=
  if x.length < 16 then ([], 270) else ((x.take 16).set 0 (x.getD 0 0 % 64 + 64), 0)
def c7 : Con := { args := [.dat BY], res := [.own 5 U8, .dat I64], pre := fun x => x.1.length ≤ 1000000000, post := fun x y => (y.1, y.2.1) = OfD x.1 }
def c8 : Con := { args := [.dat BY], res := [.own 5 U8, .dat I64], pre := fun x => x.1.length ≤ 1000000000, post := fun x y => (y.1, y.2.1) = OfD x.1 }
def c22 : Con := { args := [], res := [.dat .bool], pre := fun _ => True, post := fun _ y => y.1 = true }
def c9 : Con := { args := [], res := [.dat .bool], pre := fun _ => True, post := fun _ y => y.1 = true }
def c3 : Con := { args := [.dat BY], res := [.dat .bool], pre := fun x => ABulk [.dat BY] x ≤ 1048576, post := fun _ y => y.1 = true }
end Go.Proofs.Ytnlpnkejhepflaa
