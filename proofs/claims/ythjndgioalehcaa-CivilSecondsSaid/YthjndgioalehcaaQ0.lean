-- Written by a program of this session (ownprint.py) out of the translation. Not trusted: Lean checks it.
import Derived.Test.YthjndgioalehcaaProg
import Derived.Below
import Derived.Deep.Draws
import Derived.Deep.AppendLies
import Derived.Maps.AppendAt
import Derived.OwnWalk
import Derived.Laws.BytesArg
import Derived.Laws.MakeOwn
import Derived.Laws.OwnMore
import Derived.Deep.OwnRows
import Derived.Tactics
import Derived.Lib.ConvBytes
import Derived.Laws.Slices
import Derived.WalkKit
import Derived.KernelRfl
import Derived.RowKit3
import Derived.Deep.LoopGhost
import Derived.Deep.QuietTactic
import Derived.BigQuiet
import Derived.WideLaws
import Derived.Deep.DeepCutAuto
import Derived.Deep.CutBlock
import Derived.Deep.RegionHeld3
import Derived.Laws.Rows
import Derived.Lib.AppendStr
import Derived.ArgAppend
import Derived.Laws.IdiomCopy
import Derived.OrdersHeld
import Derived.Laws.BitsLemmas
import Derived.RowKit
import Derived.Test.YthjndgioalehcaaWWords
import Derived.Test.YthjndgioalehcaaWLast
import Derived.Test.YthjndgioalehcaaWTab
import Derived.Test.YthjndgioalehcaaWFour
import Derived.Test.YthjndgioalehcaaWQPut
import Derived.Test.YthjndgioalehcaaWApart
import Derived.Test.YthjndgioalehcaaWArr
import Derived.Test.YthjndgioalehcaaWZeros
import Derived.Test.YthjndgioalehcaaWFoot
import Derived.Test.YthjndgioalehcaaWKept
import Derived.Test.YthjndgioalehcaaWShare
import Derived.Test.YthjndgioalehcaaWN
import Derived.Test.YthjndgioalehcaaWFootNe
import Derived.Test.YthjndgioalehcaaWAt
import Derived.Test.YthjndgioalehcaaWEqStruct
import Derived.Test.YthjndgioalehcaaWRepsOne
import Derived.Test.YthjndgioalehcaaWInv
import Derived.Test.YthjndgioalehcaaWInvWords
import Derived.Test.YthjndgioalehcaaWGuard
import Derived.Test.YthjndgioalehcaaWNEv
import Derived.Test.YthjndgioalehcaaWMore
namespace Go.Proofs.Ythjndgioalehcaa.Q
open Go.RowKit Go.Proofs.YthjndgioalehcaaW.PrintWords Go.Proofs.YthjndgioalehcaaW.PrintLast Go.Proofs.YthjndgioalehcaaW.PrintMore
attribute [local go_sem] max2_int min2_int max_two min_two max_three min_three max_four min_four   -- for this text's walks alone
set_option linter.unusedVariables false
set_option linter.unusedSimpArgs false



def errW : Option Int → Value
  | none => .nilIface
  | some c => .iface 0 (.int .i64 c)
theorem errW_none : errW none = .nilIface := rfl
theorem errW_some (c : Int) : errW (some c) = .iface 0 (.int .i64 c) := rfl

-- the values' own types

end Go.Proofs.Ythjndgioalehcaa.Q
