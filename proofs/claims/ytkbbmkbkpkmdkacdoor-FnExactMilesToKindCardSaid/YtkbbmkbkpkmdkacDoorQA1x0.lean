/- What the functions that the law reaches do, each told as a plain Lean function, and proved. No condition beyond each theorem's own. Told by a program of this session out of the translation's own print. -/
import Derived.Test.YtkbbmkbkpkmdkacDoorProg
import Derived.Below
import Derived.Deep.Draws
import Derived.Deep.AppendLies
import Derived.Maps.AppendAt
import Derived.OwnWalk
import Derived.Laws.BytesArg
import Derived.Laws.MakeOwn
import Derived.Laws.OwnMore
import Derived.Deep.OwnRows
import Derived.Tactics
import Derived.Lib.ConvBytes
import Derived.Laws.Slices
import Derived.WalkKit
import Derived.KernelRfl
import Derived.RowKit3
import Derived.Deep.LoopGhost
import Derived.Deep.QuietTactic
import Derived.BigQuiet
import Derived.WideLaws
import Derived.Deep.DeepCutAuto
import Derived.Deep.CutBlock
import Derived.Deep.RegionHeld3
import Derived.Laws.Rows
import Derived.Lib.AppendStr
import Derived.ArgAppend
import Derived.Laws.IdiomCopy
import Derived.OrdersHeld
import Derived.Laws.BitsLemmas
import Derived.RowKit
import Derived.Test.YtkbbmkbkpkmdkacDoorIdxB
import Derived.Test.YtkbbmkbkpkmdkacDoorWWords
import Derived.Test.YtkbbmkbkpkmdkacDoorWLast
import Derived.Test.YtkbbmkbkpkmdkacDoorWTab
import Derived.Test.YtkbbmkbkpkmdkacDoorWFour
import Derived.Test.YtkbbmkbkpkmdkacDoorWQPut
import Derived.Test.YtkbbmkbkpkmdkacDoorWApart
import Derived.Test.YtkbbmkbkpkmdkacDoorWArr
import Derived.Test.YtkbbmkbkpkmdkacDoorWZeros
import Derived.Test.YtkbbmkbkpkmdkacDoorWFoot
import Derived.Test.YtkbbmkbkpkmdkacDoorWKept
import Derived.Test.YtkbbmkbkpkmdkacDoorWShare
import Derived.Test.YtkbbmkbkpkmdkacDoorWN
import Derived.Test.YtkbbmkbkpkmdkacDoorWFootNe
import Derived.Test.YtkbbmkbkpkmdkacDoorWAt
import Derived.Test.YtkbbmkbkpkmdkacDoorWEqStruct
import Derived.Test.YtkbbmkbkpkmdkacDoorWRepsOne
import Derived.Test.YtkbbmkbkpkmdkacDoorWInv
import Derived.Test.YtkbbmkbkpkmdkacDoorWInvWords
import Derived.Test.YtkbbmkbkpkmdkacDoorWGuard
import Derived.Test.YtkbbmkbkpkmdkacDoorWNEv
import Derived.Test.YtkbbmkbkpkmdkacDoorWMore
namespace Go.Proofs.YtkbbmkbkpkmdkacDoor.QA1
open Go.RowKit Go.Proofs.YtkbbmkbkpkmdkacDoorW.PrintWords Go.Proofs.YtkbbmkbkpkmdkacDoorW.PrintLast Go.Proofs.YtkbbmkbkpkmdkacDoorW.PrintMore Go.Proofs.YtkbbmkbkpkmdkacDoor.Ext
attribute [local go_sem] max2_int min2_int max_two min_two max_three min_three max_four min_four   -- for this text's walks alone
set_option linter.unusedVariables false
set_option linter.unusedSimpArgs false



def errW : Option Int → Value
  | none => .nilIface
  | some c => .iface 0 (.int .i64 c)
theorem errW_none : errW none = .nilIface := rfl
theorem errW_some (c : Int) : errW (some c) = .iface 0 (.int .i64 c) := rfl

-- the values' own types

end Go.Proofs.YtkbbmkbkpkmdkacDoor.QA1
