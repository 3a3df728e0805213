/- Another digest is not signed: the leaves, reckoned by the kernel, joined; no statement of the seat is proved here. -/
import Derived.Test.YtahdekllphehkaaDoorMT
import Derived.Test.YtahdekllphehkaaDoorKA
import Derived.Test.YtahdekllphehkaaDoorKB
import Derived.Test.YtahdekllphehkaaDoorKC
set_option linter.unusedVariables false
namespace Go.Proofs.YtahdekllphehkaaDoor
open Go.WL Go.Spec
theorem planted_other : Other :=
  other_of _ _ _ _ _ _ _ _ _ keyA0 keyA1 keyA2 keyA3 keyA4 keyA5 keyA6 keyA7 keyA3s (Nat.ne_of_beq_eq_false (by decide +kernel))
end Go.Proofs.YtahdekllphehkaaDoor
