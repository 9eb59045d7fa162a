/- What the functions that the law reaches do, each told as a plain Lean function, and proved. No condition beyond each theorem's own. Told by a program of this session out of the translation's own print. -/
import Derived.Test.YthkjedplcebpjagDoorProg
import Derived.Below
import Derived.Deep.Draws
import Derived.Deep.AppendLies
import Derived.Maps.AppendAt
import Derived.OwnWalk
import Derived.Laws.BytesArg
import Derived.Laws.MakeOwn
import Derived.Laws.OwnMore
import Derived.Deep.OwnRows
import Derived.Tactics
import Derived.Lib.ConvBytes
import Derived.Laws.Slices
import Derived.WalkKit
import Derived.KernelRfl
import Derived.RowKit3
import Derived.Deep.LoopGhost
import Derived.Deep.QuietTactic
import Derived.BigQuiet
import Derived.WideLaws
import Derived.Deep.DeepCutAuto
import Derived.Deep.CutBlock
import Derived.Deep.RegionHeld3
import Derived.Laws.Rows
import Derived.Lib.AppendStr
import Derived.ArgAppend
import Derived.Laws.IdiomCopy
import Derived.OrdersHeld
import Derived.Laws.BitsLemmas
import Derived.RowKit
import Derived.Test.YthkjedplcebpjagDoorItoa
import Derived.Test.YthkjedplcebpjagDoorRepeat
import Derived.Test.YthkjedplcebpjagDoorTurned
import Derived.Test.YthkjedplcebpjagDoorWWords
import Derived.Test.YthkjedplcebpjagDoorWLast
import Derived.Test.YthkjedplcebpjagDoorWTab
import Derived.Test.YthkjedplcebpjagDoorWFour
import Derived.Test.YthkjedplcebpjagDoorWQPut
import Derived.Test.YthkjedplcebpjagDoorWApart
import Derived.Test.YthkjedplcebpjagDoorWArr
import Derived.Test.YthkjedplcebpjagDoorWZeros
import Derived.Test.YthkjedplcebpjagDoorWFoot
import Derived.Test.YthkjedplcebpjagDoorWKept
import Derived.Test.YthkjedplcebpjagDoorWShare
import Derived.Test.YthkjedplcebpjagDoorWN
import Derived.Test.YthkjedplcebpjagDoorWFootNe
import Derived.Test.YthkjedplcebpjagDoorWAt
import Derived.Test.YthkjedplcebpjagDoorWEqStruct
import Derived.Test.YthkjedplcebpjagDoorWRepsOne
import Derived.Test.YthkjedplcebpjagDoorWInv
import Derived.Test.YthkjedplcebpjagDoorWInvWords
import Derived.Test.YthkjedplcebpjagDoorWGuard
import Derived.Test.YthkjedplcebpjagDoorWNEv
import Derived.Test.YthkjedplcebpjagDoorWMore
namespace Go.Proofs.YthkjedplcebpjagDoor.QFnExactRankOfMirrored
open Go.RowKit Go.Proofs.YthkjedplcebpjagDoorW.PrintWords Go.Proofs.YthkjedplcebpjagDoorW.PrintLast Go.Proofs.YthkjedplcebpjagDoorW.PrintMore Go.Proofs.YthkjedplcebpjagDoor.Ext Go.Proofs.YthkjedplcebpjagDoor.Ext Go.Proofs.YthkjedplcebpjagDoor.Ext
attribute [local go_sem] max2_int min2_int max_two min_two max_three min_three max_four min_four   -- for this text's walks alone
set_option linter.unusedVariables false
set_option linter.unusedSimpArgs false



def errW : Option Int → Value
  | none => .nilIface
  | some c => .iface 0 (.int .i64 c)
theorem errW_none : errW none = .nilIface := rfl
theorem errW_some (c : Int) : errW (some c) = .iface 0 (.int .i64 c) := rfl

-- the values' own types

end Go.Proofs.YthkjedplcebpjagDoor.QFnExactRankOfMirrored
