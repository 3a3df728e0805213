-- PRINTED BY print.sh 35421559b90ae4d0a3588c463048766b98c2df88dd9212a6774a882060cdf62d: not written by this session
import Derived.Test.YtahdekllphehkaaProg
import Derived.Below
import Derived.Deep.Draws
import Derived.Deep.AppendLies
import Derived.Maps.AppendAt
import Derived.OwnWalk
import Derived.Laws.BytesArg
import Derived.Laws.MakeOwn
import Derived.Laws.OwnMore
import Derived.Deep.OwnRows
import Derived.Tactics
import Derived.Lib.ConvBytes
import Derived.Laws.Slices
import Derived.WalkKit
import Derived.KernelRfl
import Derived.RowKit3
import Derived.Deep.LoopGhost
import Derived.Deep.QuietTactic
import Derived.BigQuiet
import Derived.WideLaws
import Derived.Deep.DeepCutAuto
import Derived.Deep.CutBlock
import Derived.Deep.RegionHeld3
import Derived.Laws.Rows
import Derived.Lib.AppendStr
import Derived.ArgAppend
import Derived.Laws.IdiomCopy
import Derived.OrdersHeld
import Derived.Laws.BitsLemmas
import Derived.RowKit
import Derived.Test.YtahdekllphehkaaWWords
import Derived.Test.YtahdekllphehkaaWLast
import Derived.Test.YtahdekllphehkaaWTab
import Derived.Test.YtahdekllphehkaaWFour
import Derived.Test.YtahdekllphehkaaWQPut
import Derived.Test.YtahdekllphehkaaWApart
import Derived.Test.YtahdekllphehkaaWArr
import Derived.Test.YtahdekllphehkaaWZeros
import Derived.Test.YtahdekllphehkaaWFoot
import Derived.Test.YtahdekllphehkaaWKept
import Derived.Test.YtahdekllphehkaaWShare
import Derived.Test.YtahdekllphehkaaWN
import Derived.Test.YtahdekllphehkaaWFootNe
import Derived.Test.YtahdekllphehkaaWAt
import Derived.Test.YtahdekllphehkaaWEqStruct
import Derived.Test.YtahdekllphehkaaWRepsOne
import Derived.Test.YtahdekllphehkaaWInv
import Derived.Test.YtahdekllphehkaaWInvWords
import Derived.Test.YtahdekllphehkaaWGuard
import Derived.Test.YtahdekllphehkaaWNEv
import Derived.Test.YtahdekllphehkaaWMore
namespace Go.Proofs.Ytahdekllphehkaa.PBackoffTell
open Go.RowKit Go.Proofs.YtahdekllphehkaaW.PrintWords Go.Proofs.YtahdekllphehkaaW.PrintLast Go.Proofs.YtahdekllphehkaaW.PrintMore
attribute [local go_sem] max2_int min2_int max_two min_two max_three min_three max_four min_four   -- for this text's walks alone
set_option linter.unusedVariables false
set_option linter.unusedSimpArgs false



def errW : Option Int → Value
  | none => .nilIface
  | some c => .iface 0 (.int .i64 c)
theorem errW_none : errW none = .nilIface := rfl
theorem errW_some (c : Int) : errW (some c) = .iface 0 (.int .i64 c) := rfl

-- the values' own types

end Go.Proofs.Ytahdekllphehkaa.PBackoffTell
