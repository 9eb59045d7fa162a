/- What the functions that the law reaches do, each told as a plain Lean function, and proved. No condition beyond each theorem's own. Told by a program of this session out of the translation's own print. -/
import Derived.Test.YthkjedplcebpjahDoorProg
import Derived.Below
import Derived.Deep.Draws
import Derived.Deep.AppendLies
import Derived.Maps.AppendAt
import Derived.OwnWalk
import Derived.Laws.BytesArg
import Derived.Laws.MakeOwn
import Derived.Laws.OwnMore
import Derived.Deep.OwnRows
import Derived.Tactics
import Derived.Lib.ConvBytes
import Derived.Laws.Slices
import Derived.WalkKit
import Derived.KernelRfl
import Derived.RowKit3
import Derived.Deep.LoopGhost
import Derived.Deep.QuietTactic
import Derived.BigQuiet
import Derived.WideLaws
import Derived.Deep.DeepCutAuto
import Derived.Deep.CutBlock
import Derived.Deep.RegionHeld3
import Derived.Laws.Rows
import Derived.Lib.AppendStr
import Derived.ArgAppend
import Derived.Laws.IdiomCopy
import Derived.OrdersHeld
import Derived.Laws.BitsLemmas
import Derived.RowKit
import Derived.Test.YthkjedplcebpjahDoorItoa0
import Derived.Test.YthkjedplcebpjahDoorIsCheck
import Derived.Test.YthkjedplcebpjahDoorRepeat
import Derived.Test.YthkjedplcebpjahDoorU8
import Derived.Test.YthkjedplcebpjahDoorWWords
import Derived.Test.YthkjedplcebpjahDoorWLast
import Derived.Test.YthkjedplcebpjahDoorWTab
import Derived.Test.YthkjedplcebpjahDoorWFour
import Derived.Test.YthkjedplcebpjahDoorWQPut
import Derived.Test.YthkjedplcebpjahDoorWApart
import Derived.Test.YthkjedplcebpjahDoorWArr
import Derived.Test.YthkjedplcebpjahDoorWZeros
import Derived.Test.YthkjedplcebpjahDoorWFoot
import Derived.Test.YthkjedplcebpjahDoorWKept
import Derived.Test.YthkjedplcebpjahDoorWShare
import Derived.Test.YthkjedplcebpjahDoorWN
import Derived.Test.YthkjedplcebpjahDoorWFootNe
import Derived.Test.YthkjedplcebpjahDoorWAt
import Derived.Test.YthkjedplcebpjahDoorWEqStruct
import Derived.Test.YthkjedplcebpjahDoorWRepsOne
import Derived.Test.YthkjedplcebpjahDoorWInv
import Derived.Test.YthkjedplcebpjahDoorWInvWords
import Derived.Test.YthkjedplcebpjahDoorWGuard
import Derived.Test.YthkjedplcebpjahDoorWNEv
import Derived.Test.YthkjedplcebpjahDoorWMore
namespace Go.Proofs.YthkjedplcebpjahDoor.QFnExactFirstSound
open Go.RowKit Go.Proofs.YthkjedplcebpjahDoorW.PrintWords Go.Proofs.YthkjedplcebpjahDoorW.PrintLast Go.Proofs.YthkjedplcebpjahDoorW.PrintMore Go.Proofs.YthkjedplcebpjahDoor.Ext Go.Proofs.YthkjedplcebpjahDoor.Ext Go.Proofs.YthkjedplcebpjahDoor.Ext
attribute [local go_sem] max2_int min2_int max_two min_two max_three min_three max_four min_four   -- for this text's walks alone
set_option linter.unusedVariables false
set_option linter.unusedSimpArgs false



def errW : Option Int → Value
  | none => .nilIface
  | some c => .iface 0 (.int .i64 c)
theorem errW_none : errW none = .nilIface := rfl
theorem errW_some (c : Int) : errW (some c) = .iface 0 (.int .i64 c) := rfl

theorem info3 : (Tryd.prog.info? 3).map (fun i => (i.zero, i.size, i.bytes)) = some (some (.int .i64 0), 1, 8) := by kernel_rfl
theorem info5 : (Tryd.prog.info? 5).map (fun i => (i.zero, i.size, i.bytes)) = some (some (.int .u8 0), 1, 1) := by kernel_rfl
-- the values' own types

end Go.Proofs.YthkjedplcebpjahDoor.QFnExactFirstSound
