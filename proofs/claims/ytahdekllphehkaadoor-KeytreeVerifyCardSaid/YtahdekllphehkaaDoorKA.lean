/- Leaves reckoned by the kernel; no statement of the seat is proved here. -/
import Derived.Test.YtahdekllphehkaaDoorMS
set_option linter.unusedVariables false
set_option linter.unusedSimpArgs false
set_option maxRecDepth 100000
namespace Go.Proofs.YtahdekllphehkaaDoor
open Go.WL Go.Spec
theorem keyA0 : keyK (pubK 2 353 0) = 89819246638150608726245822439667506611082632610764670270059810727531214703927 := Nat.eq_of_beq_eq_true (by decide +kernel)
end Go.Proofs.YtahdekllphehkaaDoor

set_option maxRecDepth 100000
namespace Go.Proofs.YtahdekllphehkaaDoor
open Go.WL Go.Spec
theorem keyA1 : keyK (pubK 2 353 1) = 101157795244192003804848107070844512984187424385648070517918784831963145380652 := Nat.eq_of_beq_eq_true (by decide +kernel)
end Go.Proofs.YtahdekllphehkaaDoor

set_option maxRecDepth 100000
namespace Go.Proofs.YtahdekllphehkaaDoor
open Go.WL Go.Spec
theorem keyA2 : keyK (pubK 2 353 2) = 38480844488584656651261700716189030064632038893970349044591447321801181205165 := Nat.eq_of_beq_eq_true (by decide +kernel)
end Go.Proofs.YtahdekllphehkaaDoor

