-- Written by a program of this session (ownprint.py) out of the translation. Not trusted: Lean checks it.
import Derived.Test.YtabegfdmmjhfdaaProg
import Derived.Below
import Derived.Deep.Draws
import Derived.Deep.AppendLies
import Derived.Maps.AppendAt
import Derived.OwnWalk
import Derived.Laws.BytesArg
import Derived.Laws.MakeOwn
import Derived.Laws.OwnMore
import Derived.Deep.OwnRows
import Derived.Tactics
import Derived.Lib.ConvBytes
import Derived.Laws.Slices
import Derived.WalkKit
import Derived.KernelRfl
import Derived.RowKit3
import Derived.Deep.LoopGhost
import Derived.Deep.QuietTactic
import Derived.BigQuiet
import Derived.WideLaws
import Derived.Deep.DeepCutAuto
import Derived.Deep.CutBlock
import Derived.Deep.RegionHeld3
import Derived.Laws.Rows
import Derived.Lib.AppendStr
import Derived.ArgAppend
import Derived.Laws.IdiomCopy
import Derived.OrdersHeld
import Derived.Laws.BitsLemmas
import Derived.RowKit
import Derived.Test.YtabegfdmmjhfdaaWWords
import Derived.Test.YtabegfdmmjhfdaaWLast
import Derived.Test.YtabegfdmmjhfdaaWTab
import Derived.Test.YtabegfdmmjhfdaaWFour
import Derived.Test.YtabegfdmmjhfdaaWQPut
import Derived.Test.YtabegfdmmjhfdaaWApart
import Derived.Test.YtabegfdmmjhfdaaWArr
import Derived.Test.YtabegfdmmjhfdaaWZeros
import Derived.Test.YtabegfdmmjhfdaaWFoot
import Derived.Test.YtabegfdmmjhfdaaWKept
import Derived.Test.YtabegfdmmjhfdaaWShare
import Derived.Test.YtabegfdmmjhfdaaWN
import Derived.Test.YtabegfdmmjhfdaaWFootNe
import Derived.Test.YtabegfdmmjhfdaaWAt
import Derived.Test.YtabegfdmmjhfdaaWEqStruct
import Derived.Test.YtabegfdmmjhfdaaWRepsOne
import Derived.Test.YtabegfdmmjhfdaaWInv
import Derived.Test.YtabegfdmmjhfdaaWInvWords
import Derived.Test.YtabegfdmmjhfdaaWGuard
import Derived.Test.YtabegfdmmjhfdaaWNEv
import Derived.Test.YtabegfdmmjhfdaaWMore
namespace Go.Proofs.Ytabegfdmmjhfdaa.S
open Go.RowKit Go.Proofs.YtabegfdmmjhfdaaW.PrintWords Go.Proofs.YtabegfdmmjhfdaaW.PrintLast Go.Proofs.YtabegfdmmjhfdaaW.PrintMore
attribute [local go_sem] max2_int min2_int max_two min_two max_three min_three max_four min_four   -- for this text's walks alone
set_option linter.unusedVariables false
set_option linter.unusedSimpArgs false



def errW : Option Int → Value
  | none => .nilIface
  | some c => .iface 0 (.int .i64 c)
theorem errW_none : errW none = .nilIface := rfl
theorem errW_some (c : Int) : errW (some c) = .iface 0 (.int .i64 c) := rfl

-- the values' own types

end Go.Proofs.Ytabegfdmmjhfdaa.S
