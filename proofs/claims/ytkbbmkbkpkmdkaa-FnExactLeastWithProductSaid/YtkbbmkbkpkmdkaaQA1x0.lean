/- What the functions that the law reaches do, each told as a plain Lean function, and proved. No condition beyond each theorem's own. Told by a program of this session out of the translation's own print. -/
import Derived.Test.YtkbbmkbkpkmdkaaProg
import Derived.Below
import Derived.Deep.Draws
import Derived.Deep.AppendLies
import Derived.Maps.AppendAt
import Derived.OwnWalk
import Derived.Laws.BytesArg
import Derived.Laws.MakeOwn
import Derived.Laws.OwnMore
import Derived.Deep.OwnRows
import Derived.Tactics
import Derived.Lib.ConvBytes
import Derived.Laws.Slices
import Derived.WalkKit
import Derived.KernelRfl
import Derived.RowKit3
import Derived.Deep.LoopGhost
import Derived.Deep.QuietTactic
import Derived.BigQuiet
import Derived.WideLaws
import Derived.Deep.DeepCutAuto
import Derived.Deep.CutBlock
import Derived.Deep.RegionHeld3
import Derived.Laws.Rows
import Derived.Lib.AppendStr
import Derived.ArgAppend
import Derived.Laws.IdiomCopy
import Derived.OrdersHeld
import Derived.Laws.BitsLemmas
import Derived.RowKit
import Derived.Test.YtkbbmkbkpkmdkaaWWords
import Derived.Test.YtkbbmkbkpkmdkaaWLast
import Derived.Test.YtkbbmkbkpkmdkaaWTab
import Derived.Test.YtkbbmkbkpkmdkaaWFour
import Derived.Test.YtkbbmkbkpkmdkaaWQPut
import Derived.Test.YtkbbmkbkpkmdkaaWApart
import Derived.Test.YtkbbmkbkpkmdkaaWArr
import Derived.Test.YtkbbmkbkpkmdkaaWZeros
import Derived.Test.YtkbbmkbkpkmdkaaWFoot
import Derived.Test.YtkbbmkbkpkmdkaaWKept
import Derived.Test.YtkbbmkbkpkmdkaaWShare
import Derived.Test.YtkbbmkbkpkmdkaaWN
import Derived.Test.YtkbbmkbkpkmdkaaWFootNe
import Derived.Test.YtkbbmkbkpkmdkaaWAt
import Derived.Test.YtkbbmkbkpkmdkaaWEqStruct
import Derived.Test.YtkbbmkbkpkmdkaaWRepsOne
import Derived.Test.YtkbbmkbkpkmdkaaWInv
import Derived.Test.YtkbbmkbkpkmdkaaWInvWords
import Derived.Test.YtkbbmkbkpkmdkaaWGuard
import Derived.Test.YtkbbmkbkpkmdkaaWNEv
import Derived.Test.YtkbbmkbkpkmdkaaWMore
namespace Go.Proofs.Ytkbbmkbkpkmdkaa.QA1
open Go.RowKit Go.Proofs.YtkbbmkbkpkmdkaaW.PrintWords Go.Proofs.YtkbbmkbkpkmdkaaW.PrintLast Go.Proofs.YtkbbmkbkpkmdkaaW.PrintMore
attribute [local go_sem] max2_int min2_int max_two min_two max_three min_three max_four min_four   -- for this text's walks alone
set_option linter.unusedVariables false
set_option linter.unusedSimpArgs false



def errW : Option Int → Value
  | none => .nilIface
  | some c => .iface 0 (.int .i64 c)
theorem errW_none : errW none = .nilIface := rfl
theorem errW_some (c : Int) : errW (some c) = .iface 0 (.int .i64 c) := rfl

-- the values' own types

end Go.Proofs.Ytkbbmkbkpkmdkaa.QA1
