/- Leaves reckoned by the kernel; no statement of the seat is proved here. -/
import Derived.Test.YtahdekllphehkaaDoorMS
set_option linter.unusedVariables false
set_option linter.unusedSimpArgs false
set_option maxRecDepth 100000
namespace Go.Proofs.YtahdekllphehkaaDoor
open Go.WL Go.Spec
theorem keyA6 : keyK (pubK 2 353 6) = 108171992458832801744602137456493930291627148819130071807202297771821612843568 := Nat.eq_of_beq_eq_true (by decide +kernel)
end Go.Proofs.YtahdekllphehkaaDoor

set_option maxRecDepth 100000
namespace Go.Proofs.YtahdekllphehkaaDoor
open Go.WL Go.Spec
theorem keyA7 : keyK (pubK 2 353 7) = 96300393828067748022005367243393713364863309149562616288738442011043703656319 := Nat.eq_of_beq_eq_true (by decide +kernel)
end Go.Proofs.YtahdekllphehkaaDoor

set_option maxRecDepth 100000
namespace Go.Proofs.YtahdekllphehkaaDoor
open Go.WL Go.Spec
def sw28 (k : Nat) : Nat := if k = 28 then 29 else if k = 29 then 28 else k
theorem keyA3s : keyK (fun k => pubK 2 353 3 (sw28 k)) = 11945532257651027738559707589015592154893157361566958610703053025188025830251 := Nat.eq_of_beq_eq_true (by decide +kernel)
end Go.Proofs.YtahdekllphehkaaDoor

