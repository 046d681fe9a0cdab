/- Contracts. -/
import Derived.Test.YtlpbhgcndebkcaaZStrsW
import Derived.Test.YtlpbhgcndebkcaaZVcHost
set_option linter.unusedVariables false
set_option linter.unusedSimpArgs false
namespace Go.Proofs.Ytlpbhgcndebkcaa
open Go Go.Vc Go.Pl Go.Proofs
def c_host_letter : Con := { args := [.dat U8], res := [.dat .bool], pre := fun _ => True, post := fun x y => y.1 = letterD x.1 }
def c_r13_letter : Con := { args := [.dat U8], res := [.dat .bool], pre := fun _ => True, post := fun x y => y.1 = letterD x.1 }
def c_host_digit : Con := { args := [.dat U8], res := [.dat .bool], pre := fun _ => True, post := fun x y => y.1 = digitD x.1 }
def c_r13_digit : Con := { args := [.dat U8], res := [.dat .bool], pre := fun _ => True, post := fun x y => y.1 = digitD x.1 }
def c_host_label_1 : Con := { args := [.dat U8], res := [.dat .bool], pre := fun _ => True, post := fun x y => y.1 = lcharD x.1 }
def c_host_local_1 : Con := { args := [.dat U8], res := [.dat .bool], pre := fun _ => True, post := fun x y => y.1 = mcharD x.1 }
def c_host_label : Con := { args := [.dat .str], res := [.dat .bool], pre := fun x => x.1.length ≤ 1000000000, post := fun x y => y.1 = labelD x.1 }
def c_r13_isLabel : Con := { args := [.dat .str], res := [.dat .bool], pre := fun x => x.1.length ≤ 1000000000, post := fun x y => y.1 = labelD x.1 }
def c_host_local : Con := { args := [.dat .str], res := [.dat .bool], pre := fun x => x.1.length ≤ 1000000000, post := fun x y => y.1 = localD x.1 }
def c_host_DNS : Con := { args := [.dat .str], res := [.dat .bool], pre := fun x => x.1.length ≤ 1000000000, post := fun x y => y.1 = dnsD x.1 }
def c_r13_DNS : Con := { args := [.dat .str], res := [.dat .bool], pre := fun x => x.1.length ≤ 1000000000, post := fun x y => y.1 = dnsD x.1 }
def c_host_Wild : Con := { args := [.dat .str], res := [.dat .bool], pre := fun x => x.1.length ≤ 1000000000, post := fun x y => y.1 = wildD x.1 }
def c_r13_Wild : Con := { args := [.dat .str], res := [.dat .bool], pre := fun x => x.1.length ≤ 1000000000, post := fun x y => y.1 = wildD x.1 }
def c_host_Email : Con := { args := [.dat .str], res := [.dat .bool], pre := fun x => x.1.length ≤ 1000000000, post := fun x y => y.1 = emailD x.1 }
def c_r13_Email : Con := { args := [.dat .str], res := [.dat .bool], pre := fun x => x.1.length ≤ 1000000000, post := fun x y => y.1 = emailD x.1 }
def c_host_IP : Con := { args := [.dat .str], res := [.dat .bool], pre := fun _ => True, post := fun x y => y.1 = ipD x.1 }
def c_r13_IP : Con := { args := [.dat .str], res := [.dat .bool], pre := fun _ => True, post := fun x y => y.1 = ipD x.1 }
def c_r13_Labels : Con := { args := [.dat .str], res := [.own 9 .str], pre := fun x => x.1.length ≤ 1000000000, post := fun x y => y.1 = labelsD x.1 }

end Go.Proofs.Ytlpbhgcndebkcaa
