-- Told by a program of this session out of the translation's own print; Lean checks it.
import Derived.Test.YtjbcjcpdchfakaaProg
import Derived.Below
import Derived.Deep.Draws
import Derived.Deep.AppendLies
import Derived.Maps.AppendAt
import Derived.OwnWalk
import Derived.Laws.BytesArg
import Derived.Laws.MakeOwn
import Derived.Laws.OwnMore
import Derived.Deep.OwnRows
import Derived.Tactics
import Derived.Lib.ConvBytes
import Derived.Laws.Slices
import Derived.WalkKit
import Derived.KernelRfl
import Derived.RowKit3
import Derived.Deep.LoopGhost
import Derived.Deep.QuietTactic
import Derived.BigQuiet
import Derived.WideLaws
import Derived.Deep.DeepCutAuto
import Derived.Deep.CutBlock
import Derived.Deep.RegionHeld3
import Derived.Laws.Rows
import Derived.Lib.AppendStr
import Derived.ArgAppend
import Derived.Laws.IdiomCopy
import Derived.OrdersHeld
import Derived.Laws.BitsLemmas
import Derived.RowKit
import Derived.Test.YtjbcjcpdchfakaaTurned
import Derived.Test.YtjbcjcpdchfakaaWWords
import Derived.Test.YtjbcjcpdchfakaaWLast
import Derived.Test.YtjbcjcpdchfakaaWTab
import Derived.Test.YtjbcjcpdchfakaaWFour
import Derived.Test.YtjbcjcpdchfakaaWQPut
import Derived.Test.YtjbcjcpdchfakaaWApart
import Derived.Test.YtjbcjcpdchfakaaWArr
import Derived.Test.YtjbcjcpdchfakaaWZeros
import Derived.Test.YtjbcjcpdchfakaaWFoot
import Derived.Test.YtjbcjcpdchfakaaWKept
import Derived.Test.YtjbcjcpdchfakaaWShare
import Derived.Test.YtjbcjcpdchfakaaWN
import Derived.Test.YtjbcjcpdchfakaaWFootNe
import Derived.Test.YtjbcjcpdchfakaaWAt
import Derived.Test.YtjbcjcpdchfakaaWEqStruct
import Derived.Test.YtjbcjcpdchfakaaWRepsOne
import Derived.Test.YtjbcjcpdchfakaaWInv
import Derived.Test.YtjbcjcpdchfakaaWInvWords
import Derived.Test.YtjbcjcpdchfakaaWGuard
import Derived.Test.YtjbcjcpdchfakaaWNEv
import Derived.Test.YtjbcjcpdchfakaaWMore
namespace Go.Proofs.Ytjbcjcpdchfakaa.QFnExactTurnReading
open Go.RowKit Go.Proofs.YtjbcjcpdchfakaaW.PrintWords Go.Proofs.YtjbcjcpdchfakaaW.PrintLast Go.Proofs.YtjbcjcpdchfakaaW.PrintMore Go.Proofs.Ytjbcjcpdchfakaa.Ext
attribute [local go_sem] max2_int min2_int max_two min_two max_three min_three max_four min_four   -- for this text's walks alone
set_option linter.unusedVariables false
set_option linter.unusedSimpArgs false



def errW : Option Int → Value
  | none => .nilIface
  | some c => .iface 0 (.int .i64 c)
theorem errW_none : errW none = .nilIface := rfl
theorem errW_some (c : Int) : errW (some c) = .iface 0 (.int .i64 c) := rfl

-- the values' own types

end Go.Proofs.Ytjbcjcpdchfakaa.QFnExactTurnReading
