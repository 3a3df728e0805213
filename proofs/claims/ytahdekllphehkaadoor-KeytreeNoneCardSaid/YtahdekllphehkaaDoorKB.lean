/- Leaves reckoned by the kernel; no statement of the seat is proved here. -/
import Derived.Test.YtahdekllphehkaaDoorMS
set_option linter.unusedVariables false
set_option linter.unusedSimpArgs false
set_option maxRecDepth 100000
namespace Go.Proofs.YtahdekllphehkaaDoor
open Go.WL Go.Spec
theorem keyA3 : keyK (pubK 2 353 3) = 44415044636417535913821217190053721864695985686248939466576678107726916661855 := Nat.eq_of_beq_eq_true (by decide +kernel)
end Go.Proofs.YtahdekllphehkaaDoor

set_option maxRecDepth 100000
namespace Go.Proofs.YtahdekllphehkaaDoor
open Go.WL Go.Spec
theorem keyA4 : keyK (pubK 2 353 4) = 3767928266457981276019325468537075625612987677763561498991395086584476035694 := Nat.eq_of_beq_eq_true (by decide +kernel)
end Go.Proofs.YtahdekllphehkaaDoor

set_option maxRecDepth 100000
namespace Go.Proofs.YtahdekllphehkaaDoor
open Go.WL Go.Spec
theorem keyA5 : keyK (pubK 2 353 5) = 47673142067250275193772509658143003656037025461457167846448374718971049511024 := Nat.eq_of_beq_eq_true (by decide +kernel)
end Go.Proofs.YtahdekllphehkaaDoor

